import Derived.Test.YtgbbhcbkldhjiaaGreatDoorK07
import Derived.Test.YtgbbhcbkldhjiaaGreatDoorK06
import Derived.Test.YtgbbhcbkldhjiaaGreatDoorK03
set_option linter.all false
set_option maxRecDepth 100000
set_option maxHeartbeats 16000000
namespace Go.Proofs.YtgbbhcbkldhjiaaGreatDoor
open Go.Proofs.Tryz Go.RowKit Bf
structure Tr where
 neg:Bool
 n:ByteArray
 d:ByteArray
def trC(x:Tr):List Value:=[.bool x.neg,.string x.n,.string x.d]
def trR(a:Rt):Tr:=⟨a.neg,bs a.n,bs a.d⟩
def trZ:Tr:=⟨false,⟨#[]⟩,⟨#[]⟩⟩
def ji:bE prog 241 37 3 40:=bE.mk' (z:= .agg #[.bool false,.string ⟨#[]⟩,.string ⟨#[]⟩]) underlying241 (by kernel_rfl) (by decide)
structure fp(N:Nat)(W W':World):Prop where
 size:W.heap.size<=W'.heap.size
 block:∀b,N<=b->b<W.heap.size->W'.heap[b]? = W.heap[b]?
def fp.of_grown{N sb:Nat}{W W':World}(h:W.grownBy W' (some sb))(hs:sb<N):fp N W W':=⟨h.size,fun b hb hl=>h.block b hl (fun e=>by have:=Option.some.inj e;omega)⟩
def aa.over{N k:Nat}{T}{v}{L:List (List Value)}{W W'}(h:aa W N T k v L)(ho:fp N W W'):aa W' N T k v L:=h.of_block fun g hg=>ho.block g (h.ge hg) (h.lt hg)
def gm(f:Func)(s:Nat)(hr:f.results=#[.cell s 37])(b:Nat)(W)(tmps:Array Value)(x y z)(hs:tmps.getD s undef=.pointer b)(K:Blk W b [x,y,z] 37):(results f tmps).run prog W=.ok (.agg #[x,y,z]) W:=by
 rw[Ow]at hs;obtain⟨r0,r1,r2⟩:=dc K;simp[results,hr,go_sem,hs,r0,r1,r2]
def Blk.put3{W}{b:Nat}{x y z}{T}(h:Blk W b [x,y,z] T)(u v t):Blk (((W.setCell ⟨b,0,none⟩ u).setCell ⟨b,1,none⟩ v).setCell ⟨b,2,none⟩ t) b [u,v,t] T:=((h.set 0 u).set 1 v).set 2 t
def Blk.off3{W}{b c:Nat}{l}{T}(h:Blk W b l T)(hc:b≠c)(u v t):Blk (((W.setCell ⟨c,0,none⟩ u).setCell ⟨c,1,none⟩ v).setCell ⟨c,2,none⟩ t) b l T:=((h.other hc u).other hc v).other hc t
def uw{N b:Nat}{w W}(h:Below N w W)(hb:N<=b)(u v t):Below N w (((W.setCell ⟨b,0,none⟩ u).setCell ⟨b,1,none⟩ v).setCell ⟨b,2,none⟩ t):=((h.setCell (p:=⟨b,0,none⟩) hb u).setCell (p:=⟨b,1,none⟩) hb v).setCell (p:=⟨b,2,none⟩) hb t
def zX(w:World)(n:Nat)(J:Nat->List Tr->World->Prop)(e:Ending)(w':World):Prop:=∃v ys,e=.returned v/\aa w' w.heap.size 37 3 v (ys.map trC)/\ys.length=n/\J n ys w'/\w.heap.size<=w'.heap.size
def ux(cf:Nat)(cp)(v)(L:List Tr)(J:Nat->List Tr->World->Prop)(w:World)(bg:∀(args)(W),(callFunc cf args).run prog W=.ok (.enter cf args) W)(hl:L.length<=1048576)(hJ:∀k ys W W',J k ys W->Below w.heap.size W W'->J k ys W')(hR:∀k ys W,J k ys W->RowC W 3 v (L.map trC))(h0:J 0 [] w)(hC:∀k x ys W,L[k]? = some x->ys.length=k->J k ys W->w.heap.size<=W.heap.size->Calls prog cf (#[.agg #[.bool x.neg,.string x.n,.string x.d]]++cp) W fun e W'=>∃y:Tr,e=.returned (.agg #[.bool y.neg,.string y.n,.string y.d])/\J (k+1) (ys++[y]) W'/\fp w.heap.size W W') :Calls prog 303 #[v,.func (.func cf) #[] cp] w (zX w L.length J):=by
 obtain⟨A,cap,e,_⟩:=hR 0 [] w h0;rw[N6]at e;obtain⟨n,hn⟩:=nm L.length;rw[hn]at e hl⊢;subst e;have HN:=MY hn;have HJ:=MY hJ;have HR:=MY hR;have H0:=MY h0;have HC:=MY hC;go_enter func303,ntmps303;go_wp2_with fail;go_loopw [5,10] (fun y z W=>∃(k:Nat)(ys:List Tr),k<=n/\z=.int .i64 k/\Hid (aa W w.heap.size 37 3 y (ys.map trC))/\Hid (J k ys W)/\Hid (ys.length=k)/\Hid (w.heap.size<=W.heap.size)) (fun _ z _=>n-(intOf z).toNat)
 case atStart=>exact⟨0,[],Nu _,rfl,aa.none_ _ _ _ _,H0.out,rfl,No _⟩
 case round=>
  obtain⟨k,ys,hk,rfl,O,ac,HY,HS⟩:=hrel;by_cases bk:k<n
  case neg=>
   obtain rfl:n=k:=by omega
   obtain⟨A5,c5,rfl⟩:=O.slice;go_wp2;go_ret;exact⟨_,ys,rfl,O.out,HY.out,ac.out,HS.out⟩
  obtain⟨x,hx⟩:=gx (l:=L) (i:=k) (by have:=HN.out;omega);obtain⟨A1,c1,e1,_,al⟩:=HR.out k ys wr ac.out;rw[N6,HN.out]at e1
  cases e1;obtain⟨bb,off,rfl,be,hc⟩:=al k (trC x) (by rw[Ou,hx];rfl);have ax:Hid (wr.rangeAt bb (off+k*3) [.bool x.neg,.string x.n,.string x.d]):=hc;obtain⟨A5,c5,rfl⟩:=O.slice;obtain⟨bh,bi⟩:=ix (k:=k) (n:=n);obtain⟨ab,ar⟩:=nm wr.heap.size;obtain⟨WA,ao⟩:=nm (wr.alloc (.cells #[.bool x.neg,.string x.n,.string x.d] 37));have OA:=MY (O.alloc (.cells #[.bool x.neg,.string x.n,.string x.d] 37));have XA:=MY (Blk.new wr [.bool x.neg,.string x.n,.string x.d] 37);have BA:=MY ((NB w.heap.size wr).alloc HS.out (.cells #[.bool x.neg,.string x.n,.string x.d] 37));rw[ao]at OA XA BA;rw[ar]at XA;have SA:Hid (w.heap.size<=WA.heap.size):=Nv HS.out BA.size;have av:=MY (HC.out k x ys WA hx HY.out (HJ.out _ _ _ _ ac.out BA.out) SA.out);obtain⟨ln,ag⟩:=nm ((ys.map trC).length);have aA:Hid (ln=k):=by show _=_;rw[<-ag,N6];exact HY.out
  rw[ag]at O OA⊢;go_upto_region 5 with(first|(refine wR 37 ax.out ?_)|(refine wB ar rfl ?_ (cs:=[.bool x.neg,.string x.n,.string x.d])))
  change Code.wp _ _ _ _ (wr.alloc (.cells #[.bool x.neg,.string x.n,.string x.d] 37));rw[ao];simp only[PT];go_wp2_with (refine wR 37 (ai XA.out) ?_);refine av.mono ?_;rintro e w1 ⟨y,rfl,ba,an⟩;have J1:=MY ba;have O1:=MY (OA.over an);have S1:Hid (w.heap.size<=w1.heap.size):=Nv SA.out an.size;obtain⟨xb,bd⟩:=nm w1.heap.size;obtain⟨W3,bc⟩:=nm (w1.alloc (.cells #[.bool y.neg,.string y.n,.string y.d] 37));have O3:=MY (O1.alloc (.cells #[.bool y.neg,.string y.n,.string y.d] 37));have X3:=MY (Blk.new w1 [.bool y.neg,.string y.n,.string y.d] 37);have B3:=MY ((NB w.heap.size w1).alloc S1.out (.cells #[.bool y.neg,.string y.n,.string y.d] 37));rw[bc]at O3 X3 B3;rw[bd]at X3;have S3:Hid (w.heap.size<=W3.heap.size):=Nv S1.out B3.size;have ad:Hid ((ys.map trC).length<=16777216):=by show _<=_;rw[ag,aA.out];omega
  go_wp2_with (at_builtin;refine pg ji rfl (.tmp 14) (.tmp 18) rfl w.heap.size (.slice A5 ln c5) (ys.map trC) rfl O3.out xb 1 [.bool y.neg,.string y.n,.string y.d] 37 rfl X3.out rfl rfl ad.out S3.out (fun v8 w8 ho hg=>?_);have O8:=MY ho;have J8:=MY (HJ.out _ _ _ _ J1.out (B3.trans ((NB w.heap.size W3).grown hg S3.out (fun k e=>O3.ge e))));have S8:Hid (w.heap.size<=w8.heap.size):=Nv S3.out hg.size;clear ho hg);refine⟨⟨k+1,ys++[y],by omega,by go_num,by rw[N9];exact O8.out,J8.out,by have:=HY.out;show _=_;simp[this],S8.out⟩,?_⟩;simp[intOf];omega
def J6(N k:Nat)(A2:Option Addr)(n2 c2:Nat)(f:Value)(W:World)(Q:Tr->World->Prop)(e:Ending)(W':World):Prop:=∃(z:Tr)(W5:World),e=.returned (.agg #[.bool z.neg,.string z.n,.string z.d])/\Q z W5/\Below N W5 W'/\N<=W5.heap.size/\Blk W' N [.slice A2 n2 c2] 241/\Blk W' (N+1) [f] 419/\Blk W' (N+2) [.int .i64 ((k+1:Nat):Int)] 3/\fp (N+3) W W'
def J7(cf:Nat)(cp)(bn:∀(args)(W),(callFunc cf args).run prog W=.ok (.enter cf args) W)(k:Nat)(x y:Tr)(N:Nat)(A2)(n2 c2:Nat)(L2:List Tr)(W)(hy:L2[k]? = some y)(bd:L2.length=n2)(hl:n2<=1048576)(k0:Blk W N [.slice A2 n2 c2] 241)(k1:Blk W (N+1) [.func (.func cf) #[] cp] 419)(k2:Blk W (N+2) [.int .i64 (k:Int)] 3)(ag:RowC W 3 (.slice A2 n2 c2) (L2.map trC))(w0)(ar:RowC w0 3 (.slice A2 n2 c2) (L2.map trC))(bg:w0.heap.size=N)(Q:Tr->World->Prop)(hC:∀W4,Below N W W4->Calls prog cf (#[.agg #[.bool x.neg,.string x.n,.string x.d],.agg #[.bool y.neg,.string y.n,.string y.d]]++cp) W4 fun e W'=>∃z:Tr,e=.returned (.agg #[.bool z.neg,.string z.n,.string z.d])/\Q z W'/\fp N W4 W') :Calls prog 334 #[.agg #[.bool x.neg,.string x.n,.string x.d],.pointer N,.pointer (N+2:Nat),.pointer (N+1:Nat)] W (J6 N k A2 n2 c2 (.func (.func cf) #[] cp) W Q):=by
 obtain⟨M,hM⟩:=nm W.heap.size;have HM:=MY hM;have bm:N+2<M:=by rw[<-hM];exact k2.lt
 have bs:k<n2:=by have:=(NQ.1 hy).1;omega
 obtain⟨A1,c1,e1,_,hr⟩:=ag;obtain rfl:A2=A1:=by injection e1
 obtain⟨bb,off,rfl,bc,hc⟩:=hr k (trC y) (by rw[Ou,hy];rfl);have ba:bb<N:=by
  obtain⟨A1,c1,e1,_,be⟩:=ar;have e1:some (⟨bb,off,none⟩:Addr)=A1:=by injection e1
  subst e1;obtain⟨bl,bh,e2,ad,_⟩:=be k (trC y) (by rw[Ou,hy];rfl)
  cases e2;rw[<-bg];exact ad
 have K3:=Blk.new W [.bool x.neg,.string x.n,.string x.d] 37;have K4:=Blk.new (W.alloc (.cells #[.bool x.neg,.string x.n,.string x.d] 37)) [.bool false,.string ⟨#[]⟩,.string ⟨#[]⟩] 37;rw[NU,hM]at K4;rw[hM]at K3;have K3:=K3.alloc (.cells #[.bool false,.string ⟨#[]⟩,.string ⟨#[]⟩] 37);have B1:=(ak W (.cells #[.bool x.neg,.string x.n,.string x.d] 37)).alloc (by simp) (.cells #[.bool false,.string ⟨#[]⟩,.string ⟨#[]⟩] 37);have al:((W.alloc (.cells #[.bool x.neg,.string x.n,.string x.d] 37)).alloc (.cells #[.bool false,.string ⟨#[]⟩,.string ⟨#[]⟩] 37)).heap.size=M+1+1:=by simp[hM]
 obtain⟨W1,ao⟩:=nm ((W.alloc (.cells #[.bool x.neg,.string x.n,.string x.d] 37)).alloc (.cells #[.bool false,.string ⟨#[]⟩,.string ⟨#[]⟩] 37));rw[ao]at K3 K4 B1 al;have K0:=k0.below B1 k0.lt;have K1:=k1.below B1 k1.lt;have K2:=k2.below B1 k2.lt;have av:Hid (W1.rangeAt bb (off+k*3) [.bool y.neg,.string y.n,.string y.d]):=fun j u hu=>(B1.cell (p:=⟨bb,_,none⟩) bc).trans (hc j u hu);obtain⟨W2,ab⟩:=nm (W1.alloc (.cells #[.bool y.neg,.string y.n,.string y.d] 37));have K5:=Blk.new W1 [.bool y.neg,.string y.n,.string y.d] 37;rw[al,ab]at K5;have B2:Below M W W2:=by rw[<-ab,<-hM];exact B1.alloc B1.size _
 have q0:=(K0.at 0 _ rfl).1;have q2:=(K2.at 0 _ rfl).1;obtain⟨r2,f2⟩:=(by rw[<-ab];exact K2.alloc _:Blk W2 (N+2) [.int .i64 (k:Int)] 3).at 0 _ rfl;have l2:N+2<W2.heap.size:=by have:=B2.size;omega
 have bi:=K0.lt;have bk:=K2.lt;obtain⟨W4,ac⟩:=nm (W2.setCell ⟨N+2,0,none⟩ (.int .i64 ((k:Int)+1)));have J0:Hid (Blk W4 N [.slice (some ⟨bb,off,none⟩) n2 c2] 241):=by rw[<-ac,<-ab];exact(K0.alloc _).other (by omega) _
 have J1:Hid (Blk W4 (N+1) [.func (.func cf) #[] cp] 419):=by rw[<-ac,<-ab];exact(K1.alloc _).other (by omega) _
 have J2:Hid (Blk W4 (N+2) [.int .i64 ((k:Int)+1)] 3):=by rw[<-ac,<-ab];exact(K2.alloc _).set 0 _
 have J3:Hid (Blk W4 M [.bool x.neg,.string x.n,.string x.d] 37):=by rw[<-ac,<-ab];exact(K3.alloc _).other (by omega) _
 have J4:Hid (Blk W4 (M+1) [.bool false,.string ⟨#[]⟩,.string ⟨#[]⟩] 37):=by rw[<-ac,<-ab];exact(K4.alloc _).other (by omega) _
 have J5:Hid (Blk W4 (M+1+1) [.bool y.neg,.string y.n,.string y.d] 37):=by rw[<-ac];exact K5.other (by omega) _
 have B4:Hid (Below N W W4):=by rw[<-ac];exact(B2.mono (by omega)).setCell (p:=⟨N+2,0,none⟩) (by show N<=N+2;omega) _
 have O4:Hid (fp (N+3) W W4):=⟨B4.size,fun b h1 h2=>by rw[<-ac,NF _ _ _ _ (show b≠N+2 by omega)];exact B2.block b (by omega)⟩
 have an:=MY (hC W4 B4.out);have ax:=MY al;obtain⟨bo,bp⟩:=ix (k:=k) (n:=n2);have br:(k:Int)+1<=1048576:=by omega
 have g1:=(J1.at 0 _ rfl).1;have aA:=J1.lt;clear hC hr hc e1 k0 k1 k2 K0 K1 K2 K3 K4 K5 B1 B2 hy bd ar;go_enter func334,ntmps334;go_wp2_with (first|(refine wR 37 av.out ?_)|(refine wB ax.out rfl ?_ (cs:=[.bool y.neg,.string y.n,.string y.d]))|(refine wR 37 (ai J3.out) ?_)|(refine wR 37 (ai J5.out) ?_));refine an.mono ?_;rintro e w5 ⟨z,rfl,hq,ho⟩;have HQ:=MY hq;have S5:Hid (M+1+1<w5.heap.size):=Nf J5.lt ho.size;have R0:Hid (Blk w5 N _ _):=(ho.block N (No _) J0.lt).trans J0.out;have R1:Hid (Blk w5 (N+1) _ _):=(ho.block (N+1) (by omega) J1.lt).trans J1.out;have R2:Hid (Blk w5 (N+2) _ _):=(ho.block (N+2) (by omega) J2.lt).trans J2.out;have R4:Hid (Blk w5 (M+1) _ _):=(ho.block (M+1) (by omega) J4.lt).trans J4.out;have O5:Hid (fp (N+3) W w5):=⟨Nv O4.size ho.size,fun b h1 h2=>(ho.block b (by omega) (Nf h2 O4.size)).trans (O4.block b h1 h2)⟩
 obtain⟨z0,bt⟩:=R4.at 0 _ rfl;obtain⟨z1,bu⟩:=R4.at 1 _ rfl;obtain⟨z2,bv⟩:=R4.at 2 _ rfl;have zl:=R4.lt;clear hq ho ao ab ac q0 q2 r2 f2 l2 bi bk g1 aA an;go_wp2_with fail;refine bodyPost_ret (gm _ 5 results334 (M+1) _ _ _ _ _ rfl (R4.put3 _ _ _)) rfl ⟨z,w5,rfl,HQ.out,uw (NB N w5) (by omega) _ _ _,by have:=S5.out;omega,R0.off3 (by omega) _ _ _,R1.off3 (by omega) _ _ _,?_,?_⟩
 ·have:=R2.off3 (show N+2≠M+1 by omega) (.bool z.neg) (.string z.n) (.string z.d);rw[Int.natCast_add];exact this
 ·refine⟨Nv O5.size (uw (NB N w5) (by omega) (.bool z.neg) (.string z.n) (.string z.d)).size,fun b h1 h2=>?_⟩;have hb:b≠M+1:=by have:=HM.out;omega
  rw[NF _ _ _ _ hb,NF _ _ _ _ hb,NF _ _ _ _ hb];exact O5.block b h1 h2
def J9(cf:Nat)(cp)(v1 v2)(L1 L2:List Tr)(J:Nat->List Tr->World->Prop)(w:World)(av:∀(args)(W),(callFunc cf args).run prog W=.ok (.enter cf args) W)(hl:L1.length=L2.length)(ax:L2.length<=1048576)(hJ:∀k ys W W',J k ys W->Below w.heap.size W W'->J k ys W')(hR:∀k ys W,J k ys W->RowC W 3 v1 (L1.map trC))(ad:∀k ys W,J k ys W->RowC W 3 v2 (L2.map trC))(h0:J 0 [] w)(hC:∀k x y ys W,L1[k]? = some x->L2[k]? = some y->ys.length=k->J k ys W->w.heap.size<=W.heap.size->Calls prog cf (#[.agg #[.bool x.neg,.string x.n,.string x.d],.agg #[.bool y.neg,.string y.n,.string y.d]]++cp) W fun e W'=>∃z:Tr,e=.returned (.agg #[.bool z.neg,.string z.n,.string z.d])/\J (k+1) (ys++[z]) W'/\fp w.heap.size W W') :Calls prog 325 #[v1,v2,.func (.func cf) #[] cp] w (zX w L1.length J):=by
 obtain⟨A1,c1,e1,_⟩:=hR 0 [] w h0;obtain⟨A2,c2,e2,_⟩:=ad 0 [] w h0;rw[N6]at e1 e2;have ag:=ad 0 [] w h0;obtain⟨n,hn⟩:=nm L2.length;rw[hl,hn]at e1;rw[hn]at e2;subst e1 e2;obtain⟨N,hN⟩:=nm w.heap.size;have HN:=MY hN;have K0:=Blk.new w [.slice A2 n c2] 241;have K1:=Blk.new (w.alloc (.cells #[.slice A2 n c2] 241)) [.func (.func cf) #[] cp] 419;have K2:=Blk.new ((w.alloc (.cells #[.slice A2 n c2] 241)).alloc (.cells #[.func (.func cf) #[] cp] 419)) [.int .i64 0] 3;have K0:=(K0.alloc (.cells #[.func (.func cf) #[] cp] 419)).alloc (.cells #[.int .i64 0] 3);have K1:=K1.alloc (.cells #[.int .i64 0] 3);have B1:=((ak w (.cells #[.slice A2 n c2] 241)).alloc (by simp) (.cells #[.func (.func cf) #[] cp] 419)).alloc (by simp;omega) (.cells #[.int .i64 0] 3);have ab:(((w.alloc (.cells #[.slice A2 n c2] 241)).alloc (.cells #[.func (.func cf) #[] cp] 419)).alloc (.cells #[.int .i64 0] 3)).heap.size=N+3:=by simp[hN]
 obtain⟨W1,ao⟩:=nm (((w.alloc (.cells #[.slice A2 n c2] 241)).alloc (.cells #[.func (.func cf) #[] cp] 419)).alloc (.cells #[.int .i64 0] 3));rw[NU,NU,hN]at K2;rw[NU,hN]at K1;rw[hN]at K0;rw[ao]at K0 K1 K2 B1 ab;obtain⟨q2,f2⟩:=K2.at 0 _ rfl;have l2:=K2.lt;obtain⟨W0,an⟩:=nm W1;obtain⟨W1,ac⟩:=nm (W0.setCell ⟨N+2,0,none⟩ (.int .i64 0));subst an;have K0:Blk W1 N [.slice A2 n c2] 241:=by rw[<-ac];exact K0.other (by omega) _
 have K1:Blk W1 (N+1) [.func (.func cf) #[] cp] 419:=by rw[<-ac];exact K1.other (by omega) _
 have K2:Blk W1 (N+2) [.int .i64 0] 3:=by rw[<-ac];exact K2.set 0 _
 have B1:eB w W1:=by rw[<-ac];exact B1.setCell (p:=⟨N+2,0,none⟩) (by rw[hN];show N<=N+2;omega) _
 have ab:W1.heap.size=N+3:=by rw[<-ac];simp[World.setCell,ab]
 have HE:=MY (ux 334 #[.pointer N,.pointer (N+2:Nat),.pointer (N+1:Nat)] (.slice A1 n c1) L1
  (fun k ys W=>J k ys W/\Blk W N [.slice A2 n c2] 241/\Blk W (N+1) [.func (.func cf) #[] cp] 419/\Blk W (N+2) [.int .i64 (k:Int)] 3) W1 (fun _ _=>rfl) (by omega)
  (fun k ys W W' h hb=>by rw[ab]at hb;exact⟨hJ _ _ _ _ h.1 (hb.mono (by omega)),h.2.1.below hb (by omega),h.2.2.1.below hb (by omega),h.2.2.2.below hb (by omega)⟩)
  (fun k ys W h=>hR _ _ _ h.1) ⟨hJ _ _ _ _ h0 B1,K0,K1,K2⟩
  (fun k x ys W hx hy h hs=>by
   obtain⟨y,al⟩:=gx (l:=L2) (i:=k) (by have:=(NQ.1 hx).1;omega);rw[ab]at hs;refine(J7 cf cp av k x y N A2 n c2 L2 W al hn (by omega) h.2.1 h.2.2.1 h.2.2.2 (ad _ _ _ h.1) w ag hN (fun z W'=>J (k+1) (ys++[z]) W') (fun W4 hb=>?_)).mono ?_
   ·have:=hC k x y ys W4 hx al hy (hJ _ _ _ _ h.1 (by rw[hN];exact hb)) (by rw[hN];exact Nv (by omega) hb.size);rw[hN]at this;exact this
   ·rintro e W' ⟨z,W5,rfl,hq,ar,aA,r0,r1,r2,ho⟩;exact⟨z,rfl,⟨hJ _ _ _ _ hq (by rw[hN];exact ar),r0,r1,r2⟩,by rw[ab];exact ho⟩))
 have B:=MY B1;have HS:=MY ab;go_enter func325,ntmps325;go_wp2_with fail;refine HE.mono ?_;rintro e w2 ⟨v,ys,rfl,ho,hy,hj,hs⟩;have HO:Hid (aa w2 w.heap.size 37 3 v (ys.map trC)):=ho.less (by rw[HS.out,HN.out];omega);have HF:=MY (And.intro hy (And.intro hj.1 hs));obtain⟨A,c,rfl⟩:=ho.slice;simp only[N6]at HO⊢;go_wp2;go_ret;exact⟨_,ys,rfl,HO.out,HF.1,HF.2.1,Nv B.size HF.2.2⟩
def aY{W V U:World}{row:Option Nat}(h:W.grownBy V row)(k:V.grownBy U row):W.grownBy U row:=⟨k.os.trans h.os,k.tape.trans h.tape,k.output.trans h.output,Nv h.size k.size,fun b hb hr=>(k.block b (Nf hb h.size) hr).trans (h.block b hb hr)⟩
def uy{b i:Nat}{row:Option Nat}{w W:World}(h:w.grownBy W row)(hb:w.heap.size<=b)(u):w.grownBy (W.setCell ⟨b,i,none⟩ u) row:=⟨h.os,h.tape,h.output,Nv h.size (by simp[World.setCell]),fun k hk hr=>(NF _ _ _ _ (show k≠b by omega)).trans (h.block k hk hr)⟩
def iD{b:Nat}{row:Option Nat}{w W:World}(h:w.grownBy W row)(hb:w.heap.size<=b)(u v t):w.grownBy (((W.setCell ⟨b,0,none⟩ u).setCell ⟨b,1,none⟩ v).setCell ⟨b,2,none⟩ t) row:=uy (uy (uy h hb u) hb v) hb t
def Ka(w:World)(sb:Nat)(l:List Value)(T:TypeId)(x:Tr)(k:Int)(e:Ending)(w':World):Prop:=e=.returned (.agg #[.bool x.neg,.string x.n,.string x.d])/\Blk w' sb (.int .i64 k::l) T/\w.grownBy w' (some sb)
def kM(w:World)(sb:Nat)(l:List Value)(T:TypeId)(o:Option Rt)(e:Ending)(w':World):Prop:=∃(z:Tr)(k:Int),e=.returned (.agg #[.bool z.neg,.string z.n,.string z.d])/\Blk w' sb (.int .i64 k::l) T/\w.grownBy w' (some sb)/\(∀r,o=some r->k=0/\z=trR r)/\(o=none->k≠0)
def uz(o:Option Rt):∃(z:Tr)(k:Int),calcV o=.tuple #[.agg #[.bool z.neg,.string z.n,.string z.d],.int .i64 k]/\(∀r,o=some r->k=0/\z=trR r)/\(o=none->k≠0):=by
 cases o with
 |none=>exact⟨trZ,2,rfl,(fun r h=>by cases h),fun _=>by decide⟩
 |some r=>exact⟨trR r,0,rfl,(fun r' h=>by cases h;exact⟨rfl,rfl⟩),fun h=>by cases h⟩
def uA(sb:Nat)(e0 k:Int)(x:Tr)(l)(T)(w)(h:Blk w sb (.int .i64 e0::l) T):Calls prog 329 #[.pointer sb,.agg #[.bool x.neg,.string x.n,.string x.d],.int .i64 k] w (Ka w sb l T x k):=by
 obtain⟨N,hN⟩:=nm w.heap.size;have HN:=MY hN;have ad:sb<N:=by rw[<-hN];exact h.lt
 have K0:=Blk.new w [.bool x.neg,.string x.n,.string x.d] 37;have K1:=Blk.new (w.alloc (.cells #[.bool x.neg,.string x.n,.string x.d] 37)) [.bool false,.string ⟨#[]⟩,.string ⟨#[]⟩] 37;rw[NU,hN]at K1;rw[hN]at K0;have K0:=K0.alloc (.cells #[.bool false,.string ⟨#[]⟩,.string ⟨#[]⟩] 37);have KS:=(h.alloc (.cells #[.bool x.neg,.string x.n,.string x.d] 37)).alloc (.cells #[.bool false,.string ⟨#[]⟩,.string ⟨#[]⟩] 37);have G1:=du ((ak w (.cells #[.bool x.neg,.string x.n,.string x.d] 37)).alloc (by simp) (.cells #[.bool false,.string ⟨#[]⟩,.string ⟨#[]⟩] 37)) (some sb);obtain⟨W1,ac⟩:=nm ((w.alloc (.cells #[.bool x.neg,.string x.n,.string x.d] 37)).alloc (.cells #[.bool false,.string ⟨#[]⟩,.string ⟨#[]⟩] 37));rw[ac]at K0 K1 KS G1;obtain⟨q0,qf⟩:=KS.at 0 _ rfl;have ql:=KS.lt;obtain⟨W2,ab⟩:=nm (W1.setCell ⟨sb,0,none⟩ (.int .i64 k));have K0:Hid (Blk W2 N [.bool x.neg,.string x.n,.string x.d] 37):=by rw[<-ab];exact K0.other (by omega) _
 have K1:Hid (Blk W2 (N+1) [.bool false,.string ⟨#[]⟩,.string ⟨#[]⟩] 37):=by rw[<-ab];exact K1.other (by omega) _
 have KS:Hid (Blk W2 sb (.int .i64 k::l) T):=by rw[<-ab];exact KS.set 0 _
 have G2:Hid (w.grownBy W2 (some sb)):=by rw[<-ab];exact aY G1 (cM _ _ _ _)
 obtain⟨z0,ag⟩:=K1.at 0 _ rfl;obtain⟨z1,al⟩:=K1.at 1 _ rfl;obtain⟨z2,an⟩:=K1.at 2 _ rfl;have zl:=K1.lt;go_enter func329,ntmps329;go_wp2_with (refine wR 37 (ai K0.out) ?_);refine bodyPost_ret (gm _ 6 results329 (N+1) _ _ _ _ _ rfl (K1.put3 _ _ _)) rfl ⟨rfl,KS.off3 (by omega) _ _ _,iD G2.out (by rw[HN.out];omega) _ _ _⟩
def uB(sb:Nat)(e0:Int)(x y:Tr)(l)(T)(o:Option Rt)(w)(h:Blk w sb (.int .i64 e0::l) T)(hT:Tab w)(hc:(e0≠0/\o=none)\/(e0=0/\∃a b:Rt,a.ok/\b.ok/\x=trR a/\y=trR b/\o=subR a b)):Calls prog 327 #[.pointer sb,.agg #[.bool x.neg,.string x.n,.string x.d],.agg #[.bool y.neg,.string y.n,.string y.d]] w (kM w sb l T o):=by
 obtain⟨N,hN⟩:=nm w.heap.size;have HN:=MY hN;have bc:sb<N:=by rw[<-hN];exact h.lt
 have K0:=Blk.new w [.bool x.neg,.string x.n,.string x.d] 37;have K1:=Blk.new (w.alloc (.cells #[.bool x.neg,.string x.n,.string x.d] 37)) [.bool y.neg,.string y.n,.string y.d] 37;have K2:=Blk.new ((w.alloc (.cells #[.bool x.neg,.string x.n,.string x.d] 37)).alloc (.cells #[.bool y.neg,.string y.n,.string y.d] 37)) [.bool false,.string ⟨#[]⟩,.string ⟨#[]⟩] 37;rw[NU,NU,hN]at K2;rw[NU,hN]at K1;rw[hN]at K0;replace K0:=(K0.alloc (.cells #[.bool y.neg,.string y.n,.string y.d] 37)).alloc (.cells #[.bool false,.string ⟨#[]⟩,.string ⟨#[]⟩] 37);replace K1:=K1.alloc (.cells #[.bool false,.string ⟨#[]⟩,.string ⟨#[]⟩] 37);have KS:=((h.alloc (.cells #[.bool x.neg,.string x.n,.string x.d] 37)).alloc (.cells #[.bool y.neg,.string y.n,.string y.d] 37)).alloc (.cells #[.bool false,.string ⟨#[]⟩,.string ⟨#[]⟩] 37);have B1:=((ak w (.cells #[.bool x.neg,.string x.n,.string x.d] 37)).alloc (by simp) (.cells #[.bool y.neg,.string y.n,.string y.d] 37)).alloc (by simp;omega) (.cells #[.bool false,.string ⟨#[]⟩,.string ⟨#[]⟩] 37);obtain⟨W1,ar⟩:=nm (((w.alloc (.cells #[.bool x.neg,.string x.n,.string x.d] 37)).alloc (.cells #[.bool y.neg,.string y.n,.string y.d] 37)).alloc (.cells #[.bool false,.string ⟨#[]⟩,.string ⟨#[]⟩] 37));rw[ar]at K0 K1 K2 KS B1;have ao:=hT.below B1;have G1:Hid (w.grownBy W1 (some sb)):=du B1 _;obtain⟨q0,qf⟩:=KS.at 0 _ rfl;have ql:=KS.lt;replace K0:=MY K0;replace K1:=MY K1;replace K2:=MY K2
 replace KS:=MY KS;have HT:=MY ao;go_enter func327,ntmps327;rcases hc with⟨h0,rfl⟩|⟨rfl,a,b,ha,hb,rfl,rfl,rfl⟩
 ·obtain⟨z0,aA⟩:=K2.at 0 _ rfl;obtain⟨z1,ba⟩:=K2.at 1 _ rfl;obtain⟨z2,bb⟩:=K2.at 2 _ rfl;have zl:=K2.lt;go_wp2_with fail;exact bodyPost_ret (gm _ 6 results327 (N+1+1) _ _ _ _ _ rfl (K2.put3 _ _ _)) rfl ⟨trZ,e0,rfl,KS.off3 (by omega) _ _ _,iD G1.out (by rw[HN.out];omega) _ _ _,(fun r hr=>by cases hr),fun _=>h0⟩
 ·obtain⟨z,k,hz,ax⟩:=uz (subR a b);have HR:Hid (Calls prog 13 #[.agg #[.bool (trR a).neg,.string (trR a).n,.string (trR a).d],.agg #[.bool (trR b).neg,.string (trR b).n,.string (trR b).d]] W1 (Ret W1 (.tuple #[.agg #[.bool z.neg,.string z.n,.string z.d],.int .i64 k]))):=by
   have:=lq a b W1 ha hb HT.out;rw[hz]at this;exact this
  have HZ:=MY ax;go_wp2_with (first|(refine wR 37 (ai K0.out) ?_)|(refine wR 37 (ai K1.out) ?_));refine HR.mono ?_;rintro e w2 ⟨rfl,ac⟩;have al:=MY (KS.below ac KS.lt);have ag:=MY (K2.below ac K2.lt);have G2:=MY (aY G1.out (du ac _));go_wp2_with fail;refine(uA sb 0 k z l T w2 al.out).mono ?_;rintro e w3 ⟨rfl,av,ad⟩;have an:=MY av;have ab:=MY (ag.grown ad (fun e=>by have:=Option.some.inj e;omega));have G3:=MY (aY G2.out ad);obtain⟨z0,aA⟩:=ab.at 0 _ rfl;obtain⟨z1,ba⟩:=ab.at 1 _ rfl;obtain⟨z2,bb⟩:=ab.at 2 _ rfl;have zl:=ab.lt;go_wp2_with fail;exact bodyPost_ret (gm _ 6 results327 (N+1+1) _ _ _ _ _ rfl (ab.put3 _ _ _)) rfl ⟨z,k,rfl,an.off3 (by omega) _ _ _,iD G3.out (by rw[HN.out];omega) _ _ _,HZ.out⟩
def Kb(sb:Nat)(e0:Int)(x y:Tr)(l)(T)(o:Option Rt)(w)(h:Blk w sb (.int .i64 e0::l) T)(hT:Tab w)(hc:(e0≠0/\o=none)\/(e0=0/\∃a b:Rt,a.ok/\b.ok/\x=trR a/\y=trR b/\o=mulR a b)):Calls prog 328 #[.pointer sb,.agg #[.bool x.neg,.string x.n,.string x.d],.agg #[.bool y.neg,.string y.n,.string y.d]] w (kM w sb l T o):=by
 obtain⟨N,hN⟩:=nm w.heap.size;have HN:=MY hN;have bc:sb<N:=by rw[<-hN];exact h.lt
 have K0:=Blk.new w [.bool x.neg,.string x.n,.string x.d] 37;have K1:=Blk.new (w.alloc (.cells #[.bool x.neg,.string x.n,.string x.d] 37)) [.bool y.neg,.string y.n,.string y.d] 37;have K2:=Blk.new ((w.alloc (.cells #[.bool x.neg,.string x.n,.string x.d] 37)).alloc (.cells #[.bool y.neg,.string y.n,.string y.d] 37)) [.bool false,.string ⟨#[]⟩,.string ⟨#[]⟩] 37;rw[NU,NU,hN]at K2;rw[NU,hN]at K1;rw[hN]at K0;replace K0:=(K0.alloc (.cells #[.bool y.neg,.string y.n,.string y.d] 37)).alloc (.cells #[.bool false,.string ⟨#[]⟩,.string ⟨#[]⟩] 37);replace K1:=K1.alloc (.cells #[.bool false,.string ⟨#[]⟩,.string ⟨#[]⟩] 37);have KS:=((h.alloc (.cells #[.bool x.neg,.string x.n,.string x.d] 37)).alloc (.cells #[.bool y.neg,.string y.n,.string y.d] 37)).alloc (.cells #[.bool false,.string ⟨#[]⟩,.string ⟨#[]⟩] 37);have B1:=((ak w (.cells #[.bool x.neg,.string x.n,.string x.d] 37)).alloc (by simp) (.cells #[.bool y.neg,.string y.n,.string y.d] 37)).alloc (by simp;omega) (.cells #[.bool false,.string ⟨#[]⟩,.string ⟨#[]⟩] 37);obtain⟨W1,ar⟩:=nm (((w.alloc (.cells #[.bool x.neg,.string x.n,.string x.d] 37)).alloc (.cells #[.bool y.neg,.string y.n,.string y.d] 37)).alloc (.cells #[.bool false,.string ⟨#[]⟩,.string ⟨#[]⟩] 37));rw[ar]at K0 K1 K2 KS B1;have ao:=hT.below B1;have G1:Hid (w.grownBy W1 (some sb)):=du B1 _;obtain⟨q0,qf⟩:=KS.at 0 _ rfl;have ql:=KS.lt;replace K0:=MY K0;replace K1:=MY K1;replace K2:=MY K2
 replace KS:=MY KS;have HT:=MY ao;go_enter func328,ntmps328;rcases hc with⟨h0,rfl⟩|⟨rfl,a,b,ha,hb,rfl,rfl,rfl⟩
 ·obtain⟨z0,aA⟩:=K2.at 0 _ rfl;obtain⟨z1,ba⟩:=K2.at 1 _ rfl;obtain⟨z2,bb⟩:=K2.at 2 _ rfl;have zl:=K2.lt;go_wp2_with fail;exact bodyPost_ret (gm _ 6 results328 (N+1+1) _ _ _ _ _ rfl (K2.put3 _ _ _)) rfl ⟨trZ,e0,rfl,KS.off3 (by omega) _ _ _,iD G1.out (by rw[HN.out];omega) _ _ _,(fun r hr=>by cases hr),fun _=>h0⟩
 ·obtain⟨z,k,hz,ax⟩:=uz (mulR a b);have HR:Hid (Calls prog 15 #[.agg #[.bool (trR a).neg,.string (trR a).n,.string (trR a).d],.agg #[.bool (trR b).neg,.string (trR b).n,.string (trR b).d]] W1 (Ret W1 (.tuple #[.agg #[.bool z.neg,.string z.n,.string z.d],.int .i64 k]))):=by
   have:=jA a b W1 ha hb HT.out;rw[hz]at this;exact this
  have HZ:=MY ax;go_wp2_with (first|(refine wR 37 (ai K0.out) ?_)|(refine wR 37 (ai K1.out) ?_));refine HR.mono ?_;rintro e w2 ⟨rfl,ac⟩;have al:=MY (KS.below ac KS.lt);have ag:=MY (K2.below ac K2.lt);have G2:=MY (aY G1.out (du ac _));go_wp2_with fail;refine(uA sb 0 k z l T w2 al.out).mono ?_;rintro e w3 ⟨rfl,av,ad⟩;have an:=MY av;have ab:=MY (ag.grown ad (fun e=>by have:=Option.some.inj e;omega));have G3:=MY (aY G2.out ad);obtain⟨z0,aA⟩:=ab.at 0 _ rfl;obtain⟨z1,ba⟩:=ab.at 1 _ rfl;obtain⟨z2,bb⟩:=ab.at 2 _ rfl;have zl:=ab.lt;go_wp2_with fail;exact bodyPost_ret (gm _ 6 results328 (N+1+1) _ _ _ _ _ rfl (ab.put3 _ _ _)) rfl ⟨z,k,rfl,an.off3 (by omega) _ _ _,iD G3.out (by rw[HN.out];omega) _ _ _,HZ.out⟩
def zY(sb:Nat)(e0:Int)(x y:Tr)(l)(T)(o:Option Rt)(w)(h:Blk w sb (.int .i64 e0::l) T)(hT:Tab w)(hc:(e0≠0/\o=none)\/(e0=0/\∃a b:Rt,a.ok/\b.ok/\x=trR a/\y=trR b/\o=divR a b/\b.n≠0)):Calls prog 305 #[.pointer sb,.agg #[.bool x.neg,.string x.n,.string x.d],.agg #[.bool y.neg,.string y.n,.string y.d]] w (kM w sb l T o):=by
 obtain⟨N,hN⟩:=nm w.heap.size;have HN:=MY hN;have bd:sb<N:=by rw[<-hN];exact h.lt
 have K0:=Blk.new w [.bool x.neg,.string x.n,.string x.d] 37;have K1:=Blk.new (w.alloc (.cells #[.bool x.neg,.string x.n,.string x.d] 37)) [.bool y.neg,.string y.n,.string y.d] 37;have K2:=Blk.new ((w.alloc (.cells #[.bool x.neg,.string x.n,.string x.d] 37)).alloc (.cells #[.bool y.neg,.string y.n,.string y.d] 37)) [.bool false,.string ⟨#[]⟩,.string ⟨#[]⟩] 37;rw[NU,NU,hN]at K2;rw[NU,hN]at K1;rw[hN]at K0;replace K0:=(K0.alloc (.cells #[.bool y.neg,.string y.n,.string y.d] 37)).alloc (.cells #[.bool false,.string ⟨#[]⟩,.string ⟨#[]⟩] 37);replace K1:=K1.alloc (.cells #[.bool false,.string ⟨#[]⟩,.string ⟨#[]⟩] 37);have KS:=((h.alloc (.cells #[.bool x.neg,.string x.n,.string x.d] 37)).alloc (.cells #[.bool y.neg,.string y.n,.string y.d] 37)).alloc (.cells #[.bool false,.string ⟨#[]⟩,.string ⟨#[]⟩] 37);have B1:=((ak w (.cells #[.bool x.neg,.string x.n,.string x.d] 37)).alloc (by simp) (.cells #[.bool y.neg,.string y.n,.string y.d] 37)).alloc (by simp;omega) (.cells #[.bool false,.string ⟨#[]⟩,.string ⟨#[]⟩] 37);obtain⟨W1,ar⟩:=nm (((w.alloc (.cells #[.bool x.neg,.string x.n,.string x.d] 37)).alloc (.cells #[.bool y.neg,.string y.n,.string y.d] 37)).alloc (.cells #[.bool false,.string ⟨#[]⟩,.string ⟨#[]⟩] 37));rw[ar]at K0 K1 K2 KS B1;have ao:=hT.below B1;have G1:Hid (w.grownBy W1 (some sb)):=du B1 _;obtain⟨q0,qf⟩:=KS.at 0 _ rfl;have ql:=KS.lt;replace K0:=MY K0;replace K1:=MY K1;replace K2:=MY K2
 replace KS:=MY KS;have HT:=MY ao;go_enter func305,ntmps305;rcases hc with⟨h0,rfl⟩|⟨rfl,a,b,ha,hb,rfl,rfl,rfl,av⟩
 ·obtain⟨z0,ba⟩:=K2.at 0 _ rfl;obtain⟨z1,bb⟩:=K2.at 1 _ rfl;obtain⟨z2,bc⟩:=K2.at 2 _ rfl;have zl:=K2.lt;go_wp2_with fail;exact bodyPost_ret (gm _ 6 results305 (N+1+1) _ _ _ _ _ rfl (K2.put3 _ _ _)) rfl ⟨trZ,e0,rfl,KS.off3 (by omega) _ _ _,iD G1.out (by rw[HN.out];omega) _ _ _,(fun r hr=>by cases hr),fun _=>h0⟩
 ·obtain⟨z,k,hz,aA⟩:=uz (divR a b);have HR:Hid (Calls prog 16 #[.agg #[.bool (trR a).neg,.string (trR a).n,.string (trR a).d],.agg #[.bool (trR b).neg,.string (trR b).n,.string (trR b).d]] W1 (Ret W1 (.tuple #[.agg #[.bool z.neg,.string z.n,.string z.d],.int .i64 k]))):=by
   have:=pC a b W1 ha hb av HT.out;rw[hz]at this;exact this
  have HZ:=MY aA;go_wp2_with (first|(refine wR 37 (ai K0.out) ?_)|(refine wR 37 (ai K1.out) ?_));refine HR.mono ?_;rintro e w2 ⟨rfl,ac⟩;have al:=MY (KS.below ac KS.lt);have ag:=MY (K2.below ac K2.lt);have G2:=MY (aY G1.out (du ac _));go_wp2_with fail;refine(uA sb 0 k z l T w2 al.out).mono ?_;rintro e w3 ⟨rfl,ax,ad⟩;have an:=MY ax;have ab:=MY (ag.grown ad (fun e=>by have:=Option.some.inj e;omega));have G3:=MY (aY G2.out ad);obtain⟨z0,ba⟩:=ab.at 0 _ rfl;obtain⟨z1,bb⟩:=ab.at 1 _ rfl;obtain⟨z2,bc⟩:=ab.at 2 _ rfl;have zl:=ab.lt;go_wp2_with fail;exact bodyPost_ret (gm _ 6 results305 (N+1+1) _ _ _ _ _ rfl (ab.put3 _ _ _)) rfl ⟨z,k,rfl,an.off3 (by omega) _ _ _,iD G3.out (by rw[HN.out];omega) _ _ _,HZ.out⟩
structure ElZ(W:World)(N sb:Nat)(e u:Int)(tp:Value)(pv:List Int)(tk:List Bool)(vs:List Value)(M:List (List Tr)):Prop where
 blk:Blk W sb (.int .i64 e::tp:: .int .i64 u::(pv.map (fun i=>Value.int .i64 i)++tk.map Value.bool)) 416
 top:aa W N 241 1 tp (vs.map fun v=>[v])
 vlen:vs.length=M.length
 row:∀(i:Nat) v l,vs[i]? = some v->M[i]? = some l->aa W N 37 3 v (l.map trC)
 plen:pv.length=32
 tlen:tk.length=32
section
variable {W W':World} {N sb:Nat} {e u:Int} {tp:Value} {pv:List Int} {tk:List Bool} {vs:List Value} {M:List (List Tr)}
def ElZ.below(h:ElZ W N sb e u tp pv tk vs M)(hb:eB W W'):ElZ W' N sb e u tp pv tk vs M:=
 ⟨h.blk.below hb h.blk.lt,h.top.below hb (No _),h.vlen,fun i v l h1 h2=>(h.row i v l h1 h2).below hb (No _),h.plen,h.tlen⟩
def ElZ.own(h:ElZ W N sb e u tp pv tk vs M)(hg:W.grownBy W' (some sb)){e' u':Int}{pv':List Int}{ab:List Bool}(hb:Blk W' sb (.int .i64 e'::tp:: .int .i64 u'::(pv'.map (fun i=>Value.int .i64 i)++ab.map Value.bool)) 416)(hp:pv'.length=32)(ht:ab.length=32):ElZ W' N sb e' u' tp pv' ab vs M:=
 ⟨hb,h.top.of_block fun g hg'=>hg.block g (h.top.lt hg') (fun e=>h.top.ne_blk h.blk (by decide) g hg' (Option.some.inj e)),h.vlen,fun i v l h1 h2=>(h.row i v l h1 h2).of_block fun g hg'=>hg.block g ((h.row i v l h1 h2).lt hg') (fun e=>(h.row i v l h1 h2).ne_blk h.blk (by decide) g hg' (Option.some.inj e)),hp,ht⟩
def ElZ.tkAt(h:ElZ W N sb e u tp pv tk vs M){i:Nat}{b:Bool}(hb:tk[i]? = some b):W.cell? ⟨sb,35+i,none⟩=some (.bool b)/\W.frozen? ⟨sb,35+i,none⟩=false:=by
 refine h.blk.at (35+i) _ ?_;rw[show 35+i=(((32+i)+1)+1)+1 by omega,Ok,Ok,Ok,N5 (by rw[N6,h.plen];omega),N6,h.plen,show 32+i-32=i by omega,Ou,hb];rfl
def ElZ.pvAt(h:ElZ W N sb e u tp pv tk vs M){i:Nat}{x:Int}(hx:pv[i]? = some x):W.cell? ⟨sb,3+i,none⟩=some (.int .i64 x)/\W.frozen? ⟨sb,3+i,none⟩=false:=by
 refine h.blk.at (3+i) _ ?_;have hi:=(NQ.1 hx).1;rw[show 3+i=((i+1)+1)+1 by omega,Ok,Ok,Ok,N4 (by rw[N6];exact hi),Ou,hx];rfl
def ElZ.at(h:ElZ W N sb e u tp pv tk vs M){i:Nat}{l:List Tr}(hl:M[i]? = some l):∃g c v A c',tp=.slice (some ⟨g,0,none⟩) M.length c/\vs[i]? = some v/\v=.slice A l.length c'/\W.cell? ⟨g,i,none⟩=some v/\W.frozen? ⟨g,i,none⟩=false/\g<W.heap.size/\aa W N 37 3 v (l.map trC):=by
 have hi:=(NQ.1 hl).1;have ab:i<vs.length:=by rw[h.vlen];exact hi
 obtain⟨v,hv⟩:∃v,vs[i]? = some v:=⟨_,Nx ab⟩
 have hr:=h.row i v l hv hl;obtain⟨A,c',e1⟩:=hr.slice;rw[N6]at e1;obtain⟨g,c,rest,e2,_,hb,_⟩:=h.top.blk (by
  intro e;have:vs=[]:=(by simpa using e)
  rw[this]at ab;simp at ab)
 rw[N6,h.vlen]at e2;have hc:=hb.at i v (by
  rw[N4 (by rw[gK _ 1 (by intro x hx;obtain⟨a,_,rfl⟩:=OE.1 hx;rfl),N6];omega)];have:=j7 (vs.map fun v=>[v]) 1 (by intro x hx;obtain⟨a,_,rfl⟩:=OE.1 hx;rfl) i 0 [v] (by rw[Ou,hv];rfl) (by omega);rw[Ov,Na]at this;exact this)
 exact⟨g,c,v,A,c',e2,hv,e1,hc.1,hc.2,hb.lt,hr⟩
end
def aa.num{W}{N:Nat}{A}{n c:Nat}{l:List Tr}(h:aa W N 37 3 (.slice A n c) (l.map trC)){j:Nat}{t:Tr}(ht:l[j]? = some t):∃b o,A=some ⟨b,o,none⟩/\b<W.heap.size/\W.rangeAt b (o+j*3) [.bool t.neg,.string t.n,.string t.d]:=by
 obtain⟨A',c',e,_,H⟩:=h.row;obtain rfl:A=A':=by injection e
 obtain⟨b,o,e1,hb,hc⟩:=H j (trC t) (by rw[Ou,ht];rfl);exact⟨b,o,e1,hb,hc⟩
def frT(M:List (List Tr))(tk:List Bool)(j i:Nat):Bool:= !(tk.getD i true)&&decide ((((M.getD i []).getD j trZ).n)≠⟨#[]⟩)
def uC{s:ByteArray}(h:s≠⟨#[]⟩):s.toList.isEmpty=false:=rT (by
 rcases s with⟨⟨l⟩⟩
 cases l with
 |nil=>exact absurd rfl h
 |cons a l=>show 0<(a::l).length;simp)
def iE(p:Nat->Bool)(n:Nat)(r:Int):Prop:=(∃k:Nat,k<n/\r=(k:Int)/\p k=true/\∀i,i<k->p i=false)\/(r= -1/\∀i,i<n->p i=false)
def zZ{M:List (List Tr)}{tk:List Bool}{j i:Nat}(h:tk[i]? = some true):frT M tk j i=false:=by
 unfold frT;rw[Oq,h];rfl
def qO{M:List (List Tr)}{tk:List Bool}{j i:Nat}{l:List Tr}{t:Tr}(h:tk[i]? = some false)(hl:M[i]? = some l)(ht:l[j]? = some t):frT M tk j i=decide (t.n≠⟨#[]⟩):=by
 unfold frT;simp only[Oq,h,hl,ht,Ot];rfl
def Kc{W}{N sb:Nat}{e u:Int}{tp}{pv:List Int}{tk:List Bool}{vs}{M:List (List Tr)}(h:ElZ W N sb e u tp pv tk vs M)(m j:Nat)(hM:M.length<=32)(hm:∀l∈M,l.length=m)(hj:j<m)(ba:m<=1048576):Calls prog 323 #[.pointer sb,.int .i64 (j:Int)] W fun e W'=>∃r,e=.returned (.int .i64 r)/\eB W W'/\iE (frT M tk j) M.length r:=by
 have ag:=nT;have H:=MY h;obtain⟨n,hn⟩:=nm M.length;have HN:=MY hn;have HM:=MY hm;obtain⟨A,c,rfl⟩:=h.top.slice;have q1:=(h.blk.at 1 _ rfl).1;have ql:=h.blk.lt;have e1:(vs.map fun v=>[v]).length=n:=by rw[N6,h.vlen];exact hn
 rw[e1]at H q1;rw[hn]at hM⊢;obtain⟨av,ax⟩:=ix (k:=j) (n:=m);clear h hn hm e1;go_enter func323,ntmps323;go_wp2_with fail;go_loopw [12] (fun z w=>∃k:Nat,k<=n/\z=.int .i64 k/\Hid (eB W w)/\Hid (∀i,i<k->frT M tk j i=false)) (fun z _=>n-(intOf z).toNat)
 case atStart=>exact⟨0,Nu _,rfl,NB _ _,fun i h=>absurd h (by omega)⟩
 case round=>
  obtain⟨k,hk,rfl,B,HF⟩:=hrel;by_cases aA:k<n
  case neg=>
   obtain rfl:n=k:=by omega
   go_wp2;go_ret;exact⟨_,rfl,B.out,.inr ⟨rfl,HF.out⟩⟩
  have HK:=MY (H.below B.out);obtain⟨l,hl⟩:=gx (l:=M) (i:=k) (by have:=HN.out;omega);obtain⟨t,ht⟩:=gx (l:=l) (i:=j) (by rw[HM.out l (Oc hl)];exact hj);obtain⟨tb,ac⟩:=gx (l:=tk) (i:=k) (by rw[HK.tlen];omega);obtain⟨g,c2,v,A2,c3,e2,hv,rfl,p0,_,pl,ho⟩:=HK.at hl;have e2:A=some ⟨g,0,none⟩:=by injection e2
  subst e2;rw[HM.out l (Oc hl)]at p0 ho;obtain⟨b,o,rfl,al,ad⟩:=ho.num ht;have q5:wr.cell? ⟨b,o+j*3+1,none⟩=some (.string t.n):=ad 1 _ rfl;have q3:=(HK.tkAt ac).1;have bc:=HK.blk.lt;have HL:=MY (And.intro ac (And.intro hl ht));obtain⟨an,ao⟩:=ix (k:=k) (n:=n);have ar:(k:Int)<32:=by omega
  clear hl ht hv ho ad ac
  cases tb with
  |true=>
   have ab:Hid (∀i,i<k+1->frT M tk j i=false):=fun i hi=>by
    by_cases h:i<k
    ·exact HF.out i h
    ·obtain rfl:i=k:=by omega
     exact zZ HL.1
   go_wp2_with fail
   refine⟨⟨k+1,by omega,by go_num,B.out,ab.out⟩,?_⟩
   simp[intOf];omega
  |false=>
   by_cases hz:t.n=⟨#[]⟩
   ·have ab:Hid (∀i,i<k+1->frT M tk j i=false):=fun i hi=>by
     by_cases h:i<k
     ·exact HF.out i h
     ·obtain rfl:i=k:=by omega
      rw[qO HL.1 HL.2.1 HL.2.2];simp[hz]
    rw[hz]at q5;go_wp2_with fail;refine⟨⟨k+1,by omega,by go_num,B.out,ab.out⟩,?_⟩;simp[intOf];omega
   ·have ab:Hid (frT M tk j k=true):=by
     show _=_;rw[qO HL.1 HL.2.1 HL.2.2];simp[hz]
    have bb:=uC hz;go_wp2;go_ret;exact⟨_,rfl,B.out,.inl ⟨k,by omega,rfl,ab.out,HF.out⟩⟩
def Ke{W}{N sb:Nat}{e u:Int}{tp}{pv:List Int}{tk:List Bool}{vs}{M:List (List Tr)}(h:ElZ W N sb e u tp pv tk vs M)(m j:Nat)(hM:M.length<=32)(hm:∀l∈M,l.length=m)(hj:j<m)(ba:m<=1048576)(hu:u=(j:Int)):Calls prog 302 #[.pointer sb] W fun e W'=>∃r,e=.returned (.int .i64 r)/\eB W W'/\iE (frT M tk j) M.length r:=by
 have ag:=nT;subst hu;have H:=MY h;obtain⟨n,hn⟩:=nm M.length;have HN:=MY hn;have HM:=MY hm;obtain⟨A,c,rfl⟩:=h.top.slice;have q1:=(h.blk.at 1 _ rfl).1;have q2:=(h.blk.at 2 _ rfl).1;have ql:=h.blk.lt;have e1:(vs.map fun v=>[v]).length=n:=by rw[N6,h.vlen];exact hn
 rw[e1]at H q1;rw[hn]at hM⊢;obtain⟨av,ax⟩:=ix (k:=j) (n:=m);clear h hn hm e1;go_enter func302,ntmps302;go_wp2_with fail;go_loopw [10] (fun z w=>∃k:Nat,k<=n/\z=.int .i64 k/\Hid (eB W w)/\Hid (∀i,i<k->frT M tk j i=false)) (fun z _=>n-(intOf z).toNat)
 case atStart=>exact⟨0,Nu _,rfl,NB _ _,fun i h=>absurd h (by omega)⟩
 case round=>
  obtain⟨k,hk,rfl,B,HF⟩:=hrel;by_cases aA:k<n
  case neg=>
   obtain rfl:n=k:=by omega
   go_wp2;go_ret;exact⟨_,rfl,B.out,.inr ⟨rfl,HF.out⟩⟩
  have HK:=MY (H.below B.out);obtain⟨l,hl⟩:=gx (l:=M) (i:=k) (by have:=HN.out;omega);obtain⟨t,ht⟩:=gx (l:=l) (i:=j) (by rw[HM.out l (Oc hl)];exact hj);obtain⟨tb,ac⟩:=gx (l:=tk) (i:=k) (by rw[HK.tlen];omega);obtain⟨g,c2,v,A2,c3,e2,hv,rfl,p0,_,pl,ho⟩:=HK.at hl;have e2:A=some ⟨g,0,none⟩:=by injection e2
  subst e2;rw[HM.out l (Oc hl)]at p0 ho;obtain⟨b,o,rfl,al,ad⟩:=ho.num ht;have q5:wr.cell? ⟨b,o+j*3+1,none⟩=some (.string t.n):=ad 1 _ rfl;have q3:=(HK.tkAt ac).1;have bc:=HK.blk.lt;have q4:=(HK.blk.at 2 _ rfl).1;have HL:=MY (And.intro ac (And.intro hl ht));obtain⟨an,ao⟩:=ix (k:=k) (n:=n);have ar:(k:Int)<32:=by omega
  clear hl ht hv ho ad ac
  cases tb with
  |true=>
   have ab:Hid (∀i,i<k+1->frT M tk j i=false):=fun i hi=>by
    by_cases h:i<k
    ·exact HF.out i h
    ·obtain rfl:i=k:=by omega
     exact zZ HL.1
   go_wp2_with fail
   refine⟨⟨k+1,by omega,by go_num,B.out,ab.out⟩,?_⟩
   simp[intOf];omega
  |false=>
   by_cases hz:t.n=⟨#[]⟩
   ·have ab:Hid (∀i,i<k+1->frT M tk j i=false):=fun i hi=>by
     by_cases h:i<k
     ·exact HF.out i h
     ·obtain rfl:i=k:=by omega
      rw[qO HL.1 HL.2.1 HL.2.2];simp[hz]
    rw[hz]at q5;go_wp2_with fail;refine⟨⟨k+1,by omega,by go_num,B.out,ab.out⟩,?_⟩;simp[intOf];omega
   ·have ab:Hid (frT M tk j k=true):=by
     show _=_;rw[qO HL.1 HL.2.1 HL.2.2];simp[hz]
    have bb:=uC hz;go_wp2;go_ret;exact⟨_,rfl,B.out,.inl ⟨k,by omega,rfl,ab.out,HF.out⟩⟩
def uD{n:Nat}:bs n≠⟨#[]⟩<->n≠0:=by
 constructor
 ·rintro h rfl;exact h rfl
 ·intro h e;have:=aU n;rw[e]at this;exact h this.symm
def trM(R:List (List Rt)):List (List Tr):=R.map fun r=>r.map trR
def oh{R:List (List Rt)}{i:Nat}{r}(h:R[i]? = some r):(trM R)[i]? = some (r.map trR):=by unfold trM;rw[Ou,h];rfl
def z7(R:List (List Rt))(i:Nat)(r):trM (R.set i r)=(trM R).set i (r.map trR):=by unfold trM;rw[List.map_set]
def qP(R:List (List Rt)):(trM R).length=R.length:=by unfold trM;rw[N6]
def Kf{n m:Nat}{R:List (List Rt)}(h:bK n m R):∀l∈trM R,l.length=m:=by
 intro l hl;obtain⟨r,hr,rfl⟩:=OE.1 hl;rw[N6];exact(h.row r hr).1
def pvI:Option Nat->Int
 |some p=>p
 |none=> -1
def iE.find{p:Nat->Bool}{n:Nat}{r:Int}(h:iE p n r):((List.range n).find? p=none/\r= -1)\/∃k:Nat,k<n/\(List.range n).find? p=some k/\r=k:=by
 rcases h with⟨k,hk,rfl,h1,h2⟩|⟨rfl,h⟩
 ·refine .inr ⟨k,hk,?_,rfl⟩;rw[List.find?_range_eq_some];exact⟨h1,OH.2 hk,fun j hj=>by rw[h2 j hj];rfl⟩
 ·refine .inl ⟨?_,rfl⟩;rw[List.find?_range_eq_none];exact fun i hi=>by rw[h i hi];rfl
def iE.congr{p q:Nat->Bool}{n:Nat}{r:Int}(h:iE p n r)(e:∀i,i<n->p i=q i):iE q n r:=by
 rcases h with⟨k,hk,rfl,h1,h2⟩|⟨rfl,h⟩
 ·exact .inl ⟨k,hk,rfl,by rw[<-e k hk];exact h1,fun i hi=>by rw[<-e i (by omega)];exact h2 i hi⟩
 ·exact .inr ⟨rfl,fun i hi=>by rw[<-e i hi];exact h i hi⟩
def z8{n m:Nat}{R:List (List Rt)}(h:bK n m R){tk:List Bool}{f:Nat->Bool}(ht:∀i,i<32->tk[i]? = some (f i))(hn:n<=32){j i:Nat}(hi:i<n)(hj:j<m):frT (trM R) tk j i=(!f i&&decide ((at2 R i j).n≠0)):=by
 obtain⟨r,x,h1,h2,h3,_⟩:=h.num hi hj;unfold frT;rw[Oq,ht i (by omega),Ot,Oq,Oq,oh h1,Ot,Ou,h2];simp only[Option.map_some,Ot,trR,h3];congr 1;exact decide_eq_decide.2 uD
def Kg{n m:Nat}{R:List (List Rt)}(h:bK n m R){tk:List Bool}{f:Nat->Bool}(ht:∀i,i<32->tk[i]? = some (f i))(hn:n<=32){j:Nat}(hj:j<m){r:Int}(hp:iE (frT (trM R) tk j) (trM R).length r):r=pvI (pivR R f j):=by
 rw[qP,h.len]at hp;have h1:=(hp.congr (fun i hi=>z8 h ht hn hi hj)).find;unfold pivR;rw[h.len];rcases h1 with⟨h1,rfl⟩|⟨k,_,h1,rfl⟩
 ·rw[h1];rfl
 ·rw[h1];rfl
def Kh{p:Nat->Bool}{n:Nat}{r:Int}(hp:iE p n r):r= -1\/∃k:Nat,k<n/\r=k:=by
 rcases hp with⟨k,hk,rfl,_⟩|⟨rfl,_⟩
 ·exact .inr ⟨k,hk,rfl⟩
 ·exact .inl rfl
def SwG(R:List (List Rt))(j p:Nat)(q:List Rt)(k:Nat)(M:List (List Tr)):Prop:=∃S,mapO (eJ j p q) (R.zipIdx.take k)=some S/\M=trM (S++R.drop k)
section
variable {R:List (List Rt)} {j p k:Nat} {q:List Rt} {M:List (List Tr)}
def qQ{S:List (List Rt)}(h:mapO (eJ j p q) (R.zipIdx.take k)=some S)(hk:k<=R.length):S.length=k:=by
 rw[cA h,Nz,List.length_zipIdx];omega
def qR{i:Nat}{r}(h:R[i]? = some r):R.zipIdx[i]? = some (r,i):=by rw[List.getElem?_zipIdx,h];simp
def SwG.start:SwG R j p q 0 (trM R):=⟨[],rfl,rfl⟩
def SwG.get(h:SwG R j p q k M){r}(hr:R[k]? = some r):M[k]? = some (r.map trR):=by
 obtain⟨S,h1,rfl⟩:=h;have hk:=(NQ.1 hr).1;refine oh ?_;rw[N5 (by rw[qQ h1 (by omega)];exact No _),qQ h1 (by omega),Nat.sub_self,List.getElem?_drop,Na,hr]
def SwG.put(h:SwG R j p q k M){r c}(hr:R[k]? = some r)(e:eJ j p q (r,k)=some c):SwG R j p q (k+1) (M.set k (c.map trR)):=by
 obtain⟨S,h1,rfl⟩:=h;have hk:=(NQ.1 hr).1;refine⟨S++[c],ir (qR hr) h1 e,?_⟩;rw[<-z7];congr 1;have hS:=qQ h1 (by omega);rw[Oy _ _ (by omega),hS,Nat.sub_self,List.drop_eq_getElem_cons hk,OB];simp
def SwG.keep(h:SwG R j p q k M){r}(hr:R[k]? = some r)(e:eJ j p q (r,k)=some r):SwG R j p q (k+1) M:=by
 have h1:=h.put hr e;have h2:=h.get hr;have h3:M.set k (r.map trR)=M:=by
  obtain⟨hl,h4⟩:=NQ.1 h2;rw[<-h4,List.set_getElem_self]
 rwa[h3]at h1
def SwG.piv(h:SwG R j p q k M)(hk:k<=R.length)(hp:R[p]? = some q):M[p]? = some (q.map trR):=by
 obtain⟨S,h1,rfl⟩:=h;have hS:=qQ h1 hk;refine oh ?_;by_cases ab:p<k
 ·rw[N4 (by omega)];have hz:(R.zipIdx.take k)[p]? = some (q,p):=by rw[NR,if_pos ab,qR hp]
  obtain⟨y,hy,e⟩:=nR h1 hz;unfold eJ at e;rw[if_pos (.inl rfl)]at e
  cases e;exact hy
 ·rw[N5 (by omega),hS,List.getElem?_drop,show k+(p-k)=p by omega,hp]
def SwG.full(h:SwG R j p q R.length M):∃S,mapO (eJ j p q) R.zipIdx=some S/\M=trM S:=by
 obtain⟨S,h1,rfl⟩:=h;rw[Ny (by rw[List.length_zipIdx];exact No _)]at h1;exact⟨S,h1,by rw[List.drop_length,Oz]⟩
end
def gU(n m j p:Nat)(O:Option (List (List Rt)))(k:Nat)(e:Int)(M:List (List Tr)):Prop:=
 (e≠0/\O=none)\/(e=0/\∃(R:List (List Rt)) (q:List Rt),bK n m R/\R[p]? = some q/\O=mapO (eJ j p q) R.zipIdx/\SwG R j p q k M)
def gU.full{n m j p:Nat}{O:Option (List (List Rt))}{e:Int}{M:List (List Tr)}(h:gU n m j p O n e M):(∀S,O=some S->e=0/\M=trM S)/\(O=none->e≠0):=by
 rcases h with⟨h1,rfl⟩|⟨rfl,R,q,h1,h2,rfl,h3⟩
 ·exact⟨fun S h=>(by cases h),fun _=>h1⟩
 ·rw[<-h1.len]at h3;obtain⟨S,h4,rfl⟩:=h3.full;rw[h4];exact⟨fun S h=>(by cases h;exact⟨rfl,rfl⟩),fun h=>by cases h⟩
def gU.round{n m j p:Nat}{O:Option (List (List Rt))}{k:Nat}{e:Int}{M:List (List Tr)}(h:gU n m j p O k e M)(hk:k<n)(hj:j<m){l lp:List Tr}{f:Tr}(hl:M[k]? = some l)(ac:M[p]? = some lp)(hf:l[j]? = some f) :(k=p\/f.n=⟨#[]⟩->gU n m j p O (k+1) e M)/\(k≠p->f.n≠⟨#[]⟩->∃o,((e≠0/\o=none)\/(e=0/\∃(la bs':List Rt)(c:Rt),(∀a∈la,a.ok)/\(∀a∈bs',a.ok)/\c.ok/\l=la.map trR/\lp=bs'.map trR/\f=trR c/\o=iy c bs' la))/\ ∀(e':Int)(ys:List Tr),(∀rs,o=some rs->e'=0/\ys=rs.map trR)->(o=none->e'≠0)->gU n m j p O (k+1) e' (M.set k ys)):=by
 rcases h with⟨h1,rfl⟩|⟨rfl,R,q,h1,h2,rfl,h3⟩
 ·exact⟨fun _=> .inl ⟨h1,rfl⟩,fun _ _=>⟨none,.inl ⟨h1,rfl⟩,fun e' ys _ h=> .inl ⟨h rfl,rfl⟩⟩⟩
 ·obtain⟨r,x,e1,e2,e3,e4⟩:=h1.num hk hj;have hg:=h3.get e1;rw[hl]at hg
  cases hg;have ab:=h3.piv (by rw[h1.len];omega) h2;rw[ac]at ab
  cases ab;rw[Ou,e2]at hf
  cases hf;have hd:r.getD j ae=x:=by rw[Oq,e2];rfl
  refine⟨fun h=>?_,fun h4 h5=>⟨iy x q r,.inr ⟨rfl,r,q,x,(h1.row r (Oc e1)).2,(h1.row q (Oc h2)).2,e4,rfl,rfl,rfl,rfl⟩,fun e' ys h6 h7=>?_⟩⟩
  ·refine .inr ⟨rfl,R,q,h1,h2,rfl,h3.keep e1 ?_⟩;unfold eJ;rw[if_pos];rcases h with h|h
   ·exact .inl h
   ·refine .inr ?_;simp only[hd];exact Decidable.by_contra fun hn=>uD.2 hn h
  ·have hs:eJ j p q (r,k)=iy x q r:=by
    unfold eJ;rw[if_neg,hd];rintro(h|h)
    ·exact h4 h
    ·simp only[hd]at h;exact uD.1 h5 h
   cases ho:iy x q r with
   |none=>exact .inl ⟨h7 ho,iw (qR e1) (by rw[hs];exact ho)⟩
   |some rs=>
    obtain⟨rfl,rfl⟩:=h6 rs ho
    exact .inr ⟨rfl,R,q,h1,h2,rfl,h3.put e1 (by rw[hs];exact ho)⟩
def stepO(s:ElS)(j p:Nat):Option (List (List Rt)):=match scaleRow s.rows p j with
 |none=>none
 |some rp=>mapO (eJ j p rp) (s.rows.set p rp).zipIdx
def Aa{s:ElS}{j p:Nat}(h:pivR s.rows s.tk j=some p):gL s j=(stepO s j p).map fun rows=>⟨rows,fun i=>if i=p then true else s.tk i,s.piv++[some p]⟩:=by
 unfold gL stepO;rw[h];simp only
 cases scaleRow s.rows p j with
 |none=>rfl
 |some rp=>simp only;cases mapO (eJ j p rp) (s.rows.set p rp).zipIdx <;> rfl
def Ki{s:ElS}{j:Nat}(h:pivR s.rows s.tk j=none):gL s j=some ⟨s.rows,s.tk,s.piv++[none]⟩:=by
 unfold gL;rw[h]
def gU.of_scale{n m j p:Nat}{s:ElS}(h:bK n m s.rows)(hp:p<n)(h0:(at2 s.rows p j).n≠0){e:Int}{ys:List Tr}(h1:∀rs,scaleRow s.rows p j=some rs->e=0/\ys=rs.map trR)(h2:scaleRow s.rows p j=none->e≠0):gU n m j p (stepO s j p) 0 e ((trM s.rows).set p ys):=by
 unfold stepO
 cases hs:scaleRow s.rows p j with
 |none=>exact .inl ⟨h2 hs,rfl⟩
 |some q=>
  obtain⟨rfl,rfl⟩:=h1 q hs
  obtain⟨q1,q2⟩:=zV h hp h0 hs
  exact .inr ⟨rfl,_,q,h.set p q1 q2,by rw[On (by rw[h.len];exact hp)],rfl,by rw[<-z7];exact .start⟩
structure ElLaw(R:List (List Rt))(j:Nat)(e:Int)(pv:List Int)(tk:List Bool)(M:List (List Tr))(s:ElS):Prop where
 run:elimTo R j=some s
 err:e=0
 mat:M=trM s.rows
 tkn:∀i,i<32->tk[i]? = some (s.tk i)
 piv:∀(i:Nat)(q:Option Nat),s.piv[i]? = some q->pv[i]? = some (pvI q)
def ElLaw.start(R:List (List Rt))(pv:List Int):ElLaw R 0 0 pv (List.replicate 32 false) (trM R) ⟨R,fun _=>false,[]⟩:=
 ⟨rfl,rfl,rfl,fun i hi=>by rw[List.getElem?_replicate,if_pos hi],fun i q h=>by simp at h⟩
def Ae{pv:List Int}{l:List (Option Nat)}{j:Nat}(hl:l.length=j)(hj:j<pv.length)(q:Option Nat)(h:∀(i:Nat)(q:Option Nat),l[i]? = some q->pv[i]? = some (pvI q)):∀(i:Nat)(q':Option Nat),(l++[q])[i]? = some q'->(pv.set j (pvI q))[i]? = some (pvI q'):=by
 intro i q' hq;by_cases hi:i<j
 ·rw[N4 (by omega)]at hq;rw[Oo (by omega)];exact h i q' hq
 ·have:i=j:=by
   have:=(NQ.1 hq).1;simp at this;omega
  subst this;rw[<-hl,List.getElem?_concat_length]at hq
  cases hq;rw[On hj]
def ElLaw.free{R:List (List Rt)}{n m j:Nat}{e:Int}{pv:List Int}{tk:List Bool}{M:List (List Tr)}{s:ElS}(h:ElLaw R j e pv tk M s)(hR:bK n m R)(hj:j<m)(hp:j<pv.length)(hf:pivR s.rows s.tk j=none):ElLaw R (j+1) e (pv.set j (-1)) tk M ⟨s.rows,s.tk,s.piv++[none]⟩:=by
 have ho:=og hR (by omega) h.run;refine⟨?_,h.err,h.mat,h.tkn,Ae ho.len hp none h.piv⟩;unfold elimTo;rw[h.run];exact Ki hf
def ElLaw.step{R:List (List Rt)}{n m j p:Nat}{e:Int}{pv:List Int}{tk:List Bool}{M M':List (List Tr)}{s:ElS}(h:ElLaw R j e pv tk M s)(hR:bK n m R)(hj:j<m)(hl:j<pv.length)(ab:p<32)(ht:tk.length=32)(hf:pivR s.rows s.tk j=some p){S:List (List Rt)}(hS:stepO s j p=some S)(hM:M'=trM S):ElLaw R (j+1) 0 (pv.set j (p:Int)) (tk.set p true) M' ⟨S,fun i=>if i=p then true else s.tk i,s.piv++[some p]⟩:=by
 have ho:=og hR (by omega) h.run;refine⟨?_,rfl,hM,fun i hi=>?_,Ae ho.len hl (some p) h.piv⟩
 ·unfold elimTo;rw[h.run];show gL s j=_;rw[Aa hf,hS];rfl
 ·by_cases hip:i=p
  ·subst hip;rw[On (by omega)];simp
  ·rw[Oo (by omega)];simp only[if_neg hip];exact h.tkn i hi
def ElLaw.bad{R:List (List Rt)}{j p:Nat}{e:Int}{pv:List Int}{tk:List Bool}{M:List (List Tr)}{s:ElS}(h:ElLaw R j e pv tk M s)(hf:pivR s.rows s.tk j=some p)(hS:stepO s j p=none):elimTo R (j+1)=none:=by
 unfold elimTo;rw[h.run];show gL s j=_;rw[Aa hf,hS];rfl
def Af(bp yb sb:Nat)(e0:Int)(x y:Tr)(l)(o:Option Rt)(w)(hp:Blk w bp [.pointer sb] 410)(hy:Blk w yb [.bool y.neg,.string y.n,.string y.d] 37)(hs:Blk w sb (.int .i64 e0::l) 416)(hT:Tab w)(hc:(e0≠0/\o=none)\/(e0=0/\∃a b:Rt,a.ok/\b.ok/\x=trR a/\y=trR b/\o=divR a b/\b.n≠0)) :Calls prog 324 #[.agg #[.bool x.neg,.string x.n,.string x.d],.pointer bp,.pointer yb] w (kM w sb l 416 o):=by
 obtain⟨N,hN⟩:=nm w.heap.size;have HN:=MY hN;have bl:sb<N:=by rw[<-hN];exact hs.lt
 have bk:bp<N:=by rw[<-hN];exact hp.lt
 have bm:yb<N:=by rw[<-hN];exact hy.lt
 have be:bp≠sb:=fun e=>by subst e;have:=hp.symm.trans hs;cases this
 have bg:yb≠sb:=fun e=>by subst e;have:=hy.symm.trans hs;cases this
 have K0:=(Blk.new w [.bool x.neg,.string x.n,.string x.d] 37).alloc (.cells #[.bool false,.string ⟨#[]⟩,.string ⟨#[]⟩] 37);have K1:=Blk.new (w.alloc (.cells #[.bool x.neg,.string x.n,.string x.d] 37)) [.bool false,.string ⟨#[]⟩,.string ⟨#[]⟩] 37;have B1:=(ak w (.cells #[.bool x.neg,.string x.n,.string x.d] 37)).alloc (by simp) (.cells #[.bool false,.string ⟨#[]⟩,.string ⟨#[]⟩] 37);rw[NU,hN]at K1;rw[hN]at K0;obtain⟨W1,bd⟩:=nm ((w.alloc (.cells #[.bool x.neg,.string x.n,.string x.d] 37)).alloc (.cells #[.bool false,.string ⟨#[]⟩,.string ⟨#[]⟩] 37));rw[bd]at K0 K1 B1;have HG:=MY (du B1 (some sb));have HD:=MY (zY sb e0 x y l 416 o W1.drew (hs.below B1 hs.lt).drew (hT.below (Below.drew B1)) hc);have P1:=hp.below B1 hp.lt;have Y1:=hy.below B1 hy.lt;have ab:Hid (Blk W1 N [.bool x.neg,.string x.n,.string x.d] 37/\Blk W1 yb [.bool y.neg,.string y.n,.string y.d] 37/\Blk W1 bp [.pointer sb] 410):=⟨K0,Y1,P1⟩
 have av:=MY K1;go_enter func324,ntmps324;go_wp2_with fail;refine aJ (S:=fun w'=>Blk w' N [.bool x.neg,.string x.n,.string x.d] 37/\Blk w' yb [.bool y.neg,.string y.n,.string y.d] 37/\w'.cell? ⟨bp,0,none⟩=some (.pointer sb)/\bp<w'.heap.size) [0,1,2,3,4,1005,1006] ⟨ab.1.drew,ab.2.1.drew,(ab.2.2.at 0 _ rfl).1,ab.2.2.lt⟩ (fun ac=>?_);repeat(first|(refine sR 37 (fun w' ar=>ai ar.1) ?_)|(refine sR 37 (fun w' ar=>ai ar.2.1) ?_)|(refine sQ ?_)|(refine sS ?_))
 refine az fun K hK=>?_;go_simp;refine HD.mono ?_;rintro e w2 ⟨z,k,rfl,hk,hg,bh,bi⟩;replace hg:=aY (eh W1 (some sb)) hg;have ao:∀b,b≠sb->b<W1.heap.size->w2.heap[b]? = W1.heap[b]?:=fun b h1 h2=>hg.block b h2 (fun e=>h1 (Option.some.inj e));have ad:Hid (Blk w2 N [.bool x.neg,.string x.n,.string x.d] 37/\Blk w2 yb [.bool y.neg,.string y.n,.string y.d] 37/\Blk w2 bp [.pointer sb] 410):=⟨(ao N (by omega) ab.1.lt).trans ab.1,(ao yb bg ab.2.1.lt).trans ab.2.1,(ao bp be ab.2.2.lt).trans ab.2.2⟩
 have ag:Hid (Blk w2 (N+1) [.bool false,.string ⟨#[]⟩,.string ⟨#[]⟩] 37):=(ao (N+1) (by omega) av.lt).trans av.out;have ba:Hid (w.grownBy w2 (some sb)):=aY HG.out hg;have ax:=MY hk;have HZ:=MY (And.intro bh bi);obtain⟨W3,an⟩:=nm (((w2.setCell ⟨N+1,0,none⟩ (.bool z.neg)).setCell ⟨N+1,1,none⟩ (.string z.n)).setCell ⟨N+1,2,none⟩ (.string z.d));have al:Hid (Blk W3 N [.bool x.neg,.string x.n,.string x.d] 37/\Blk W3 yb [.bool y.neg,.string y.n,.string y.d] 37/\Blk W3 bp [.pointer sb] 410):=by rw[<-an];exact⟨ad.1.off3 (by omega) _ _ _,ad.2.1.off3 (by omega) _ _ _,ad.2.2.off3 (by omega) _ _ _⟩
 have bc:Hid (Blk W3 (N+1) [.bool z.neg,.string z.n,.string z.d] 37):=by rw[<-an];exact ag.put3 _ _ _
 have bb:Hid (w.grownBy W3 (some sb)):=by rw[<-an];exact iD ba.out (by rw[hN];omega) _ _ _
 have aA:Hid (Blk W3 sb (.int .i64 k::l) 416):=by rw[<-an];exact ax.off3 (by omega) _ _ _
 obtain⟨z0,bn⟩:=ag.at 0 _ rfl;obtain⟨z1,bo⟩:=ag.at 1 _ rfl;obtain⟨z2,br⟩:=ag.at 2 _ rfl;have zl:=ag.lt;go_wp2_with fail;refine hG hK (by exact⟨ad.1,ad.2.1,(ad.2.2.at 0 _ rfl).1,ad.2.2.lt⟩) fun ac=>?_;clear hK K;repeat refine ay ?_
 refine az fun K hK=>?_;go_simp;refine hG hK (by exact⟨al.1,al.2.1,(al.2.2.at 0 _ rfl).1,al.2.2.lt⟩) fun ac=>?_;clear hK K;refine aj ?_;go_wp2_with fail;exact bodyPost_ret (gm _ 4 results324 (N+1) _ _ _ _ _ rfl bc.out) rfl ⟨z,k,rfl,aA.out,bb.out,HZ.out⟩
def Blk.by_sb{w W}{b sb:Nat}{l m}{T}(h:Blk w b m T)(hs:Blk w sb l 416)(hT:T≠416)(hg:w.grownBy W (some sb)):Blk W b m T:=h.grown hg (fun e=>h.ne hs hT (Option.some.inj e))
def Tab.by_sb{w W}{sb:Nat}{e0:Int}{l}(h:Tab w)(hs:Blk w sb (.int .i64 e0::l) 416)(hg:w.grownBy W (some sb)):Tab W:=h.grown hg (fun e=>by
 subst e;have h1:=h.2 0 (by omega);rw[(hs.at 0 _ rfl).1]at h1;have h2:=Option.some.inj h1;injection h2 with h3
 cases h3)
def mh(c x y:Rt):Option Rt:=match mulR c y with|some z=>subR x z|none=>none
def Ag(bp fb sb:Nat)(e0:Int)(x y f:Tr)(l)(o:Option Rt)(w)(hp:Blk w bp [.pointer sb] 410)(hf:Blk w fb [.bool f.neg,.string f.n,.string f.d] 37)(hs:Blk w sb (.int .i64 e0::l) 416)(hT:Tab w)(hc:(e0≠0/\o=none)\/(e0=0/\∃a b c:Rt,a.ok/\b.ok/\c.ok/\x=trR a/\y=trR b/\f=trR c/\o=mh c a b)) :Calls prog 326 #[.agg #[.bool x.neg,.string x.n,.string x.d],.agg #[.bool y.neg,.string y.n,.string y.d],.pointer bp,.pointer fb] w (kM w sb l 416 o):=by
 obtain⟨N,hN⟩:=nm w.heap.size;have HN:=MY hN;have cb:sb<N:=by rw[<-hN];exact hs.lt
 have bv:bp<N:=by rw[<-hN];exact hp.lt
 have bx:fb<N:=by rw[<-hN];exact hf.lt
 have bw:bp≠sb:=hp.ne hs (by decide);have ca:fb≠sb:=hf.ne hs (by decide);have K0:=((Blk.new w [.bool x.neg,.string x.n,.string x.d] 37).alloc (.cells #[.bool y.neg,.string y.n,.string y.d] 37)).alloc (.cells #[.bool false,.string ⟨#[]⟩,.string ⟨#[]⟩] 37);have K1:=(Blk.new (w.alloc (.cells #[.bool x.neg,.string x.n,.string x.d] 37)) [.bool y.neg,.string y.n,.string y.d] 37).alloc (.cells #[.bool false,.string ⟨#[]⟩,.string ⟨#[]⟩] 37);have K2:=Blk.new ((w.alloc (.cells #[.bool x.neg,.string x.n,.string x.d] 37)).alloc (.cells #[.bool y.neg,.string y.n,.string y.d] 37)) [.bool false,.string ⟨#[]⟩,.string ⟨#[]⟩] 37;have B1:=((ak w (.cells #[.bool x.neg,.string x.n,.string x.d] 37)).alloc (by simp) (.cells #[.bool y.neg,.string y.n,.string y.d] 37)).alloc (by simp;omega) (.cells #[.bool false,.string ⟨#[]⟩,.string ⟨#[]⟩] 37);rw[NU,NU,hN]at K2;rw[NU,hN]at K1;rw[hN]at K0;obtain⟨W1,bt⟩:=nm (((w.alloc (.cells #[.bool x.neg,.string x.n,.string x.d] 37)).alloc (.cells #[.bool y.neg,.string y.n,.string y.d] 37)).alloc (.cells #[.bool false,.string ⟨#[]⟩,.string ⟨#[]⟩] 37));rw[bt]at K0 K1 K2 B1;have HG:=MY (du B1 (some sb));have hm:∃om,((e0≠0/\om=none)\/(e0=0/\∃a b:Rt,a.ok/\b.ok/\f=trR a/\y=trR b/\om=mulR a b))/\∀(z:Tr)(k:Int),(∀r,om=some r->k=0/\z=trR r)->(om=none->k≠0)->(k≠0/\o=none)\/(k=0/\∃a b:Rt,a.ok/\b.ok/\x=trR a/\z=trR b/\o=subR a b):=by
  rcases hc with⟨h,ho⟩|⟨rfl,a,b,c,ha,hb,be,rfl,rfl,rfl,ho⟩
  ·exact⟨none,.inl ⟨h,rfl⟩,fun z k _ h2=> .inl ⟨h2 rfl,ho⟩⟩
  ·refine⟨mulR c b,.inr ⟨rfl,c,b,be,hb,rfl,rfl,rfl⟩,fun z k h1 h2=>?_⟩;unfold mh at ho
   cases ax:mulR c b with
   |none=>rw[ax]at ho;exact .inl ⟨h2 ax,ho⟩
   |some r=>
    obtain⟨rfl,rfl⟩:=h1 r ax
    rw[ax]at ho
    exact .inr ⟨rfl,a,r,ha,fB ax be.2.2.1 hb.2.2.1,rfl,rfl,ho⟩
 obtain⟨om,bu,bb⟩:=hm;have HD:=MY (Kb sb e0 f y l 416 om W1.drew (hs.below B1 hs.lt).drew (hT.below (Below.drew B1)) bu);have ba:=MY bb;have P1:=hp.below B1 hp.lt;have F1:=hf.below B1 hf.lt;have ac:Hid (Blk W1 N [.bool x.neg,.string x.n,.string x.d] 37/\Blk W1 (N+1) [.bool y.neg,.string y.n,.string y.d] 37/\Blk W1 fb [.bool f.neg,.string f.n,.string f.d] 37/\Blk W1 bp [.pointer sb] 410):=⟨K0,K1,F1,P1⟩
 have bn:=MY K2;have bs:=MY (hT.below B1);have al:=MY (hs.below B1 hs.lt);go_enter func326,ntmps326;go_wp2_with fail;refine aJ (S:=fun w'=>Blk w' N [.bool x.neg,.string x.n,.string x.d] 37/\Blk w' (N+1) [.bool y.neg,.string y.n,.string y.d] 37/\Blk w' fb [.bool f.neg,.string f.n,.string f.d] 37/\w'.cell? ⟨bp,0,none⟩=some (.pointer sb)/\bp<w'.heap.size) [0,1,2,3,4,5,6,7,8,1009,1010,1011] ⟨ac.1.drew,ac.2.1.drew,ac.2.2.1.drew,(ac.2.2.2.at 0 _ rfl).1,ac.2.2.2.lt⟩ (fun ab=>?_);repeat(first|(refine sR 37 (fun w' av=>ai av.1) ?_)|(refine sR 37 (fun w' av=>ai av.2.1) ?_)|(refine sR 37 (fun w' av=>ai av.2.2.1) ?_)|(refine sQ ?_)|(refine sS ?_))
 refine az fun K hK=>?_;go_simp;refine HD.mono ?_;rintro e w2 ⟨z,k,rfl,hk,hg,bc,bd⟩;replace hg:=aY (eh W1 (some sb)) hg;have ad:Hid (Blk w2 N [.bool x.neg,.string x.n,.string x.d] 37/\Blk w2 (N+1) [.bool y.neg,.string y.n,.string y.d] 37/\Blk w2 fb [.bool f.neg,.string f.n,.string f.d] 37/\Blk w2 bp [.pointer sb] 410):=⟨ac.1.by_sb al.out (by decide) hg,ac.2.1.by_sb al.out (by decide) hg,ac.2.2.1.by_sb al.out (by decide) hg,ac.2.2.2.by_sb al.out (by decide) hg⟩
 have bo:Hid (Blk w2 (N+1+1) [.bool false,.string ⟨#[]⟩,.string ⟨#[]⟩] 37):=bn.by_sb al.out (by decide) hg;have bk:Hid (w.grownBy w2 (some sb)):=aY HG.out hg;have bg:=MY (uB sb k x z l 416 o w2 hk (bs.by_sb al.out hg) (ba.out z k bc bd));have an:=MY hk;refine hG hK (by exact⟨ad.1,ad.2.1,ad.2.2.1,(ad.2.2.2.at 0 _ rfl).1,ad.2.2.2.lt⟩) fun ab=>?_;clear hK K;repeat refine ay ?_
 refine az fun K hK=>?_;go_simp;refine bg.mono ?_;rintro e w3 ⟨z3,k3,rfl,hk,hg,bc,bd⟩;have ag:Hid (Blk w3 N [.bool x.neg,.string x.n,.string x.d] 37/\Blk w3 (N+1) [.bool y.neg,.string y.n,.string y.d] 37/\Blk w3 fb [.bool f.neg,.string f.n,.string f.d] 37/\Blk w3 bp [.pointer sb] 410):=⟨ad.1.by_sb an.out (by decide) hg,ad.2.1.by_sb an.out (by decide) hg,ad.2.2.1.by_sb an.out (by decide) hg,ad.2.2.2.by_sb an.out (by decide) hg⟩
 have ao:Hid (Blk w3 (N+1+1) [.bool false,.string ⟨#[]⟩,.string ⟨#[]⟩] 37):=bo.by_sb an.out (by decide) hg;have bl:Hid (w.grownBy w3 (some sb)):=aY bk.out hg;have bh:=MY hk;have HZ:=MY (And.intro bc bd);obtain⟨W4,aA⟩:=nm (((w3.setCell ⟨N+1+1,0,none⟩ (.bool z3.neg)).setCell ⟨N+1+1,1,none⟩ (.string z3.n)).setCell ⟨N+1+1,2,none⟩ (.string z3.d));have ar:Hid (Blk W4 N [.bool x.neg,.string x.n,.string x.d] 37/\Blk W4 (N+1) [.bool y.neg,.string y.n,.string y.d] 37/\Blk W4 fb [.bool f.neg,.string f.n,.string f.d] 37/\Blk W4 bp [.pointer sb] 410):=by rw[<-aA];exact⟨ag.1.off3 (by omega) _ _ _,ag.2.1.off3 (by omega) _ _ _,ag.2.2.1.off3 (by omega) _ _ _,ag.2.2.2.off3 (by omega) _ _ _⟩
 have br:Hid (Blk W4 (N+1+1) [.bool z3.neg,.string z3.n,.string z3.d] 37):=by rw[<-aA];exact ao.put3 _ _ _
 have bm:Hid (w.grownBy W4 (some sb)):=by rw[<-aA];exact iD bl.out (by rw[hN];omega) _ _ _
 have bi:Hid (Blk W4 sb (.int .i64 k3::l) 416):=by rw[<-aA];exact bh.off3 (by omega) _ _ _
 obtain⟨z0,cc⟩:=ao.at 0 _ rfl;obtain⟨z1,cd⟩:=ao.at 1 _ rfl;obtain⟨z2,cf⟩:=ao.at 2 _ rfl;have zl:=ao.lt;refine hG hK (by exact⟨ag.1,ag.2.1,ag.2.2.1,(ag.2.2.2.at 0 _ rfl).1,ag.2.2.2.lt⟩) fun ab=>?_;clear hK K;repeat refine ay ?_
 refine az fun K hK=>?_;go_simp;refine hG hK (by exact⟨ar.1,ar.2.1,ar.2.2.1,(ar.2.2.2.at 0 _ rfl).1,ar.2.2.2.lt⟩) fun ab=>?_;clear hK K;refine aj ?_;go_wp2_with fail;exact bodyPost_ret (gm _ 6 results326 (N+1+1) _ _ _ _ _ rfl br.out) rfl ⟨z3,k3,rfl,bi.out,bm.out,HZ.out⟩
def qS{w W W':World}{row:Option Nat}(h:w.grownBy W row)(k:Below w.heap.size W W'):w.grownBy W' row:=⟨k.os.trans h.os,k.tape.trans h.tape,k.output.trans h.output,Nv h.size k.size,fun b hb hr=>(k.block b hb).trans (h.block b hb hr)⟩
def Ah(w:World)(sb:Nat)(l:List Value)(n:Nat)(o:Option (List Rt))(e:Ending)(w':World):Prop:=∃(v:Value)(ys:List Tr) (k:Int),e=.returned v/\aa w' w.heap.size 37 3 v (ys.map trC)/\ys.length=n/\Blk w' sb (.int .i64 k::l) 416/\w.grownBy w' (some sb)/\(∀rs,o=some rs->k=0/\ys=rs.map trR)/\(o=none->k≠0)
def aa.by_sb{w W}{N sb:Nat}{v}{L:List (List Value)}{l}(h:aa w N 37 3 v L)(hs:Blk w sb l 416)(hg:w.grownBy W (some sb)):aa W N 37 3 v L:=h.of_block fun g hg'=>hg.block g (h.lt hg') (fun e=>h.ne_blk hs (by decide) g hg' (Option.some.inj e))
def Kj(bp yb sb N:Nat)(e0:Int)(y:Tr)(v)(L:List Tr)(l)(o:Option (List Rt))(w)(hp:Blk w bp [.pointer sb] 410)(hy:Blk w yb [.bool y.neg,.string y.n,.string y.d] 37)(hs:Blk w sb (.int .i64 e0::l) 416)(hT:Tab w)(hR:aa w N 37 3 v (L.map trC))(hL:L.length<=1048576)(hc:(e0≠0/\o=none)\/(e0=0/\∃(la:List Rt)(b:Rt),(∀a∈la,a.ok)/\b.ok/\L=la.map trR/\y=trR b/\o=mapO (fun x=>divR x b) la/\b.n≠0)) :Calls prog 303 #[v,.func (.func 324) #[] #[.pointer bp,.pointer yb]] w (Ah w sb l L.length o):=by
 refine(ux 324 #[.pointer bp,.pointer yb] v L
  (fun k ys W=>∃kk:Int,Blk W sb (.int .i64 kk::l) 416/\w.grownBy W (some sb)/\((kk≠0/\o=none)\/(kk=0/\∃(la:List Rt)(b:Rt) (rs:List Rt),(∀a∈la,a.ok)/\b.ok/\L=la.map trR/\y=trR b/\o=mapO (fun x=>divR x b) la/\b.n≠0/\mapO (fun x=>divR x b) (la.take k)=some rs/\ys=rs.map trR)))
  w (fun _ _=>rfl) hL ?_ ?_ ?_ ?_).mono ?_
 ·rintro k ys W W' ⟨kk,h1,h2,h3⟩ hb;exact⟨kk,h1.below hb hs.lt,qS h2 hb,h3⟩
 ·rintro k ys W ⟨kk,h1,h2,h3⟩;exact(hR.by_sb hs h2).row
 ·refine⟨e0,hs,World.grownBy.refl _ _,?_⟩;rcases hc with h|⟨h,la,b,h1,h2,h3,h4,h5,h6⟩
  ·exact .inl h
  ·exact .inr ⟨h,la,b,[],h1,h2,h3,h4,h5,h6,rfl,rfl⟩
 ·rintro k x ys W hx an ⟨kk,h1,h2,h3⟩ hW;have ad:=hp.by_sb hs (by decide) h2;have ag:=hy.by_sb hs (by decide) h2;have ab:=hT.by_sb hs h2;have ac:=hs.lt;rcases h3 with⟨hk,ho⟩|⟨rfl,la,b,rs,a1,a2,a3,a4,a5,a6,a7,a8⟩
  ·refine(Af bp yb sb kk x y l none W ad ag h1 ab (.inl ⟨hk,rfl⟩)).mono ?_;rintro e W' ⟨z,k2,rfl,q1,q2,q3,q4⟩;exact⟨z,rfl,⟨k2,q1,aY h2 q2,.inl ⟨q4 rfl,ho⟩⟩,fp.of_grown q2 ac⟩
  ·obtain⟨a,ha,rfl⟩:∃a,la[k]? = some a/\x=trR a:=by
    rw[a3,Ou]at hx
    cases h:la[k]? with
    |none=>rw[h]at hx;cases hx
    |some a=>rw[h]at hx;cases hx;exact⟨a,rfl,rfl⟩
   refine(Af bp yb sb 0 (trR a) y l (divR a b) W ad ag h1 ab (.inr ⟨rfl,a,b,a1 a (Oc ha),a2,rfl,a4,rfl,a6⟩)).mono ?_;rintro e W' ⟨z,k2,rfl,q1,q2,q3,q4⟩;refine⟨z,rfl,⟨k2,q1,aY h2 q2,?_⟩,fp.of_grown q2 ac⟩
   cases hd:divR a b with
   |none=>exact .inl ⟨q4 hd,by rw[a5];exact iw ha hd⟩
   |some r=>
    obtain⟨rfl,rfl⟩:=q3 r hd
    exact .inr ⟨rfl,la,b,rs++[r],a1,a2,a3,a4,a5,a6,ir ha a7 hd,by rw[a8];simp⟩
 ·rintro e w' ⟨v',ys,rfl,h1,h2,⟨kk,h3,h4,h5⟩,h6⟩;refine⟨v',ys,kk,rfl,h1,h2,h3,h4,?_,?_⟩
  ·intro rs ho;rcases h5 with⟨_,h⟩|⟨hk,la,b,al,_,_,a3,_,a5,_,a7,a8⟩
   ·rw[h]at ho;cases ho
   ·rw[a3,N6,OK,<-a5,ho]at a7
    cases a7;exact⟨hk,a8⟩
  ·intro ho;rcases h5 with⟨h,_⟩|⟨hk,la,b,al,_,_,a3,_,a5,_,a7,a8⟩
   ·exact h
   ·rw[a3,N6,OK,<-a5,ho]at a7
    cases a7
def uE(c)(bs' la):iy c bs' la=mapO (fun(xy:Rt×Rt)=>mh c xy.1 xy.2) (la.zip bs'):=rfl
def Kk(bp fb sb N:Nat)(e0:Int)(f:Tr)(v1 v2)(L1 L2:List Tr)(l)(o:Option (List Rt))(w)(hp:Blk w bp [.pointer sb] 410)(hf:Blk w fb [.bool f.neg,.string f.n,.string f.d] 37)(hs:Blk w sb (.int .i64 e0::l) 416)(hT:Tab w)(hR:aa w N 37 3 v1 (L1.map trC))(an:aa w N 37 3 v2 (L2.map trC))(hl:L1.length=L2.length)(hL:L2.length<=1048576)(hc:(e0≠0/\o=none)\/(e0=0/\∃(la bs':List Rt)(c:Rt),(∀a∈la,a.ok)/\(∀a∈bs',a.ok)/\c.ok/\L1=la.map trR/\L2=bs'.map trR/\f=trR c/\o=iy c bs' la)) :Calls prog 325 #[v1,v2,.func (.func 326) #[] #[.pointer bp,.pointer fb]] w (Ah w sb l L1.length o):=by
 refine(J9 326 #[.pointer bp,.pointer fb] v1 v2 L1 L2
  (fun k ys W=>∃kk:Int,Blk W sb (.int .i64 kk::l) 416/\w.grownBy W (some sb)/\((kk≠0/\o=none)\/(kk=0/\∃(la bs':List Rt)(c:Rt) (rs:List Rt),(∀a∈la,a.ok)/\(∀a∈bs',a.ok)/\c.ok/\L1=la.map trR/\L2=bs'.map trR/\f=trR c/\o=iy c bs' la/\mapO (fun(xy:Rt×Rt)=>mh c xy.1 xy.2) ((la.zip bs').take k)=some rs/\ys=rs.map trR)))
  w (fun _ _=>rfl) hl hL ?_ ?_ ?_ ?_ ?_).mono ?_
 ·rintro k ys W W' ⟨kk,h1,h2,h3⟩ hb;exact⟨kk,h1.below hb hs.lt,qS h2 hb,h3⟩
 ·rintro k ys W ⟨kk,h1,h2,h3⟩;exact(hR.by_sb hs h2).row
 ·rintro k ys W ⟨kk,h1,h2,h3⟩;exact(an.by_sb hs h2).row
 ·refine⟨e0,hs,World.grownBy.refl _ _,?_⟩;rcases hc with h|⟨h,la,bs',c,h1,h2,h3,h4,h5,h6,h7⟩
  ·exact .inl h
  ·exact .inr ⟨h,la,bs',c,[],h1,h2,h3,h4,h5,h6,h7,rfl,rfl⟩
 ·rintro k x y ys W hx ab ar ⟨kk,h1,h2,h3⟩ hW;have al:=hp.by_sb hs (by decide) h2;have ad:=hf.by_sb hs (by decide) h2;have ac:=hT.by_sb hs h2;have ag:=hs.lt;rcases h3 with⟨hk,ho⟩|⟨rfl,la,bs',c,rs,a1,a2,a3,a4,a5,a6,a7,a8,a9⟩
  ·refine(Ag bp fb sb kk x y f l none W al ad h1 ac (.inl ⟨hk,rfl⟩)).mono ?_;rintro e W' ⟨z,k2,rfl,q1,q2,q3,q4⟩;exact⟨z,rfl,⟨k2,q1,aY h2 q2,.inl ⟨q4 rfl,ho⟩⟩,fp.of_grown q2 ag⟩
  ·obtain⟨a,ha,rfl⟩:∃a,la[k]? = some a/\x=trR a:=by
    rw[a4,Ou]at hx
    cases h:la[k]? with
    |none=>rw[h]at hx;cases hx
    |some a=>rw[h]at hx;cases hx;exact⟨a,rfl,rfl⟩
   obtain⟨b,hb,rfl⟩:∃a,bs'[k]? = some a/\y=trR a:=by
    rw[a5,Ou]at ab
    cases h:bs'[k]? with
    |none=>rw[h]at ab;cases ab
    |some a=>rw[h]at ab;cases ab;exact⟨a,rfl,rfl⟩
   have hz:(la.zip bs')[k]? = some (a,b):=by rw[List.getElem?_zip_eq_some];exact⟨ha,hb⟩
   refine(Ag bp fb sb 0 (trR a) (trR b) f l (mh c a b) W al ad h1 ac (.inr ⟨rfl,a,b,c,a1 a (Oc ha),a2 b (Oc hb),a3,rfl,rfl,a6,rfl⟩)).mono ?_;rintro e W' ⟨z,k2,rfl,q1,q2,q3,q4⟩;refine⟨z,rfl,⟨k2,q1,aY h2 q2,?_⟩,fp.of_grown q2 ag⟩
   cases hd:mh c a b with
   |none=>exact .inl ⟨q4 hd,by rw[a7,uE];exact iw hz hd⟩
   |some r=>
    obtain⟨rfl,rfl⟩:=q3 r hd
    exact .inr ⟨rfl,la,bs',c,rs++[r],a1,a2,a3,a4,a5,a6,a7,ir hz a8 hd,by rw[a9];simp⟩
 ·rintro e w' ⟨v',ys,rfl,h1,h2,⟨kk,h3,h4,h5⟩,h6⟩;have full:∀(la bs':List Rt),L1=la.map trR->L2=bs'.map trR->(la.zip bs').take L1.length=la.zip bs':=by
   intro la bs' e1 e2;rw[e1,e2,N6,N6]at hl;refine Ny ?_;rw[List.length_zip,e1,N6];omega
  refine⟨v',ys,kk,rfl,h1,h2,h3,h4,?_,?_⟩
  ·intro rs ho;rcases h5 with⟨_,h⟩|⟨hk,la,bs',c,ao,_,_,_,a4,a5,_,a7,a8,a9⟩
   ·rw[h]at ho;cases ho
   ·rw[full _ _ a4 a5,<-uE,<-a7,ho]at a8
    cases a8;exact⟨hk,a9⟩
  ·intro ho;rcases h5 with⟨h,_⟩|⟨hk,la,bs',c,ao,_,_,_,a4,a5,_,a7,a8,a9⟩
   ·exact h
   ·rw[full _ _ a4 a5,<-uE,<-a7,ho]at a8
    cases a8
def Ai(vs:List Value):(vs.map fun v=>[v]).flatten=vs:=by
 induction vs with
 |nil=>rfl
 |cons a t ih=>simpa using ih
structure ElI(w W:World)(N sb B:Nat)(u:Int)(n m:Nat)(tp:Value)(e:Int)(pv:List Int)(tk:List Bool)(vs:List Value)(M:List (List Tr)):Prop where
 el:ElZ W N sb e u tp pv tk vs M
 len:M.length=n
 row:∀l∈M,l.length=m
 box:Blk W B [.pointer sb] 410
 bl:Below N w W
 tab:Tab W
 lo:N<=sb
 keep:∀b l,Blk w b l 410->Blk W b l 410
section
variable {w W W':World} {N sb B:Nat} {u:Int} {n m:Nat} {tp:Value} {e:Int} {pv:List Int} {tk:List Bool} {vs:List Value} {M:List (List Tr)}
def ElI.below(h:ElI w W N sb B u n m tp e pv tk vs M)(hb:eB W W'):ElI w W' N sb B u n m tp e pv tk vs M:=
 ⟨h.el.below hb,h.len,h.row,h.box.below hb h.box.lt,h.bl.trans (hb.mono (Nv h.lo (NS h.el.blk.lt))),h.tab.below hb,h.lo,fun b l k=>(h.keep b l k).below hb (h.keep b l k).lt⟩
def ElI.own(h:ElI w W N sb B u n m tp e pv tk vs M)(hg:W.grownBy W' (some sb)){e':Int}{pv':List Int}{ab:List Bool}(hb:Blk W' sb (.int .i64 e'::tp:: .int .i64 u::(pv'.map (fun i=>Value.int .i64 i)++ab.map Value.bool)) 416)(hp:pv'.length=32)(ht:ab.length=32):ElI w W' N sb B u n m tp e' pv' ab vs M:=
 ⟨h.el.own hg hb hp ht,h.len,h.row,h.box.by_sb h.el.blk (by decide) hg,h.bl.grown hg (Nv h.lo (NS h.el.blk.lt)) (fun k e=>by cases e;exact h.lo),h.tab.by_sb h.el.blk hg,h.lo,fun b l k=>(h.keep b l k).by_sb h.el.blk (by decide) hg⟩
def ElI.pvset(h:ElI w W N sb B u n m tp e pv tk vs M){j:Nat}(hj:j<32)(x:Int):ElI w (W.setCell ⟨sb,3+j,none⟩ (.int .i64 x)) N sb B u n m tp e (pv.set j x) tk vs M:=by
 refine h.own (cM _ _ _ _) ?_ (by rw[List.length_set];exact h.el.plen) h.el.tlen;have h1:=h.el.blk.set (3+j) (.int .i64 x);rw[show 3+j=((j+1)+1)+1 by omega,OC,OC,OC,List.set_append_left _ _ (by rw[N6,h.el.plen];exact hj),<-List.map_set]at h1;rw[show 3+j=((j+1)+1)+1 by omega];exact h1
def ElI.tkset(h:ElI w W N sb B u n m tp e pv tk vs M){j:Nat}(x:Bool):ElI w (W.setCell ⟨sb,35+j,none⟩ (.bool x)) N sb B u n m tp e pv (tk.set j x) vs M:=by
 refine h.own (cM _ _ _ _) ?_ h.el.plen (by rw[List.length_set];exact h.el.tlen);have h1:=h.el.blk.set (35+j) (.bool x);rw[show 35+j=(((32+j)+1)+1)+1 by omega,OC,OC,OC,Oy _ _ (by rw[N6,h.el.plen];omega),N6,h.el.plen,show 32+j-32=j by omega,<-List.map_set]at h1;rw[show 35+j=(((32+j)+1)+1)+1 by omega];exact h1
def ElI.at(h:ElI w W N sb B u n m tp e pv tk vs M){i:Nat}(hi:i<n):∃g c v A c' l,tp=.slice (some ⟨g,0,none⟩) n c/\M[i]? = some l/\l.length=m/\v=.slice A m c'/\W.cell? ⟨g,i,none⟩=some v/\W.frozen? ⟨g,i,none⟩=false/\g<W.heap.size/\aa W N 37 3 v (l.map trC):=by
 obtain⟨l,hl⟩:=gx (l:=M) (i:=i) (by rw[h.len];exact hi);obtain⟨g,c,v,A,c',e1,e2,e3,e4,e5,e6,e7⟩:=h.el.at hl;rw[h.len]at e1;rw[h.row l (Oc hl)]at e3;exact⟨g,c,v,A,c',l,e1,hl,h.row l (Oc hl),e3,e4,e5,e6,e7⟩
def ElI.put(h:ElI w W N sb B u n m tp e pv tk vs M){i g c:Nat}(hi:i<n)(ht:tp=.slice g n c){v'}{ys:List Tr}(ho:aa W N 37 3 v' (ys.map trC))(hl:ys.length=m):ElI w (W.setCell ⟨g,i,none⟩ v') N sb B u n m tp e pv tk (vs.set i v') (M.set i ys):=by
 have hv:vs.length=n:=by rw[h.el.vlen,h.len]
 have h0:(vs.map fun v=>[v])≠[]:=by
  intro e;have:vs=[]:=by simpa using e
  rw[this]at hv;simp at hv;omega
 obtain⟨g',cap,rest,e1,al,ab,av⟩:=h.el.top.blk h0;rw[ht]at e1;injection e1 with e2 e3 e4;injection e2 with e2;injection e2 with e2;subst e2;rw[Ai]at ab;have an:g≠sb:=fun e=>by subst e;have:=ab.symm.trans h.el.blk;simp at this
 have ag:g≠B:=fun e=>by subst e;have:=ab.symm.trans h.box;simp at this
 have ac:=ab.set i v';rw[List.set_append_left _ _ (by omega)]at ac;refine⟨⟨h.el.blk.other (Ne.symm an) _,?_,by rw[List.length_set,List.length_set];exact h.el.vlen,fun j v l h1 h2=>?_,h.el.plen,h.el.tlen⟩,by rw[List.length_set];exact h.len,fun l ar=>?_,h.box.other (Ne.symm ag) _,h.bl.setCell (p:=⟨g,i,none⟩) al _,?_,h.lo,fun b l k=>(h.keep b l k).other (fun e=>by subst e;have:=ab.symm.trans (h.keep _ _ k);simp at this) _⟩
 ·have:=av (W.setCell ⟨g,i,none⟩ v') ((vs.set i v').map fun v=>[v]) (by simp) (by intro c hc;obtain⟨a,_,rfl⟩:=OE.1 hc;rfl) (by rw[Ai];exact ac);exact this
 ·by_cases ao:j=i
  ·subst ao;rw[On (by omega)]at h1;rw[On (by rw[h.len];omega)]at h2
   cases h1;cases h2;exact ho.set ab (by decide) _
  ·rw[Oo (by omega)]at h1 h2;exact(h.el.row j v l h1 h2).set ab (by decide) _
 ·rcases List.mem_or_eq_of_mem_set ar with h1|rfl
  ·exact h.row l h1
  ·exact hl
 ·refine h.tab.grown (g:=g) (cM _ _ _ _) (fun e=>?_);subst e;obtain⟨z,hz⟩:=gx (l:=(vs++rest)) (i:=0) (by rw[Oe];omega);have h1:=h.tab.2 0 (by omega);rw[(ab.at 0 z hz).1]at h1
  cases h1;obtain⟨z2,ad⟩:=gx (l:=vs) (i:=0);rw[N4 (by omega),ad]at hz;obtain⟨l,hl⟩:=gx (l:=M) (i:=0) (by rw[h.len];omega);obtain⟨A,c2,e5⟩:=(h.el.row 0 z2 l ad hl).slice;rw[e5]at hz;have:=Option.some.inj hz;simp at this
end
def Kl(w:World)(N sb u n m:Nat)(tp:Value)(R:List (List Rt))(e:Ending)(w':World):Prop:=e=.returned (.tuple #[])/\∃B e' pv tk vs M,ElI w w' N sb B (u:Int) n m tp e' pv tk vs M/\((∃s,ElLaw R u e' pv tk M s)\/(e'≠0/\elimTo R u=none))
def Km{w}{N sb u n m:Nat}{tp}{pv:List Int}{vs}{R:List (List Rt)}(h:ElZ w N sb 0 (u:Int) tp pv (List.replicate 32 false) vs (trM R))(hR:bK n m R)(hn:n<=32)(hm:m<=1048576)(hu:u<m)(ex:u<=32)(hN:N<=sb)(hT:Tab w) :Calls prog 301 #[.pointer sb] w (Kl w N sb u n m tp R):=by
 obtain⟨B,hB⟩:=nm w.heap.size;have bk:=MY hR;obtain⟨W1,ed⟩:=nm (w.alloc (.cells #[.pointer (some ⟨sb,0,none⟩)] 410));have X1:=Blk.new w [.pointer sb] 410;rw[hB]at X1;have I1:Hid (ElI w W1 N sb B (u:Int) n m tp 0 pv (List.replicate 32 false) vs (trM R)):=by
  have hb:=ak w (.cells #[.pointer sb] 410);rw[<-ed];exact⟨h.below hb,by rw[qP,hR.len],Kf hR,X1,hb.mono (Nv hN (NS h.blk.lt)),hT.below hb,hN,fun b l k=>k.below hb k.lt⟩
 have L1:=MY (ElLaw.start R pv);have b1:=(I1.box.at 0 _ rfl).1;have be:=I1.box.lt;have q2:=(I1.el.blk.at 2 _ rfl).1;have eC:=I1.el.blk.lt;go_enter func301,ntmps301;go_wp2_with fail;go_loopw [12] (fun z W=>∃(j:Nat)(pv:List Int) (tk:List Bool) (vs:List Value) (M:List (List Tr)) (s:ElS),j<=u/\z=.int .i64 j/\Hid (ElI w W N sb B (u:Int) n m tp 0 pv tk vs M)/\Hid (ElLaw R j 0 pv tk M s)) (fun z _=>u-(intOf z).toNat)
 case atStart=>exact⟨0,_,_,_,_,_,Nu _,rfl,I1.out,L1.out⟩
 case round=>
  obtain⟨j,pv,tk,vs,M,s,hj,rfl,E,L⟩:=hrel;by_cases fQ:j<u
  case neg=>
   obtain rfl:u=j:=by omega
   go_wp2_with fail;exact bodyPost_ret (v:= .tuple #[]) (by simp[results,results301]) rfl ⟨rfl,_,_,_,_,_,_,E.out,.inl ⟨s,L.out⟩⟩
  have av:j<m:=by omega
  have bl:=MY (og bk.out (by omega) L.run);have b1:=(E.box.at 0 _ rfl).1;have be:=E.box.lt;have cR:=MY (Kc E.el m j (by rw[E.len];exact hn) E.row av hm);obtain⟨fn,fq⟩:=ix (k:=j) (n:=u);have fr:(j:Int)<32:=by omega
  have fs:(j:Int)<(m:Int):=by omega
  go_wp2_with fail;refine cR.mono ?_;rintro e w1 ⟨r,rfl,eg,hp⟩;have E1:=MY (E.below eg);have cl:Hid (r=pvI (pivR s.rows s.tk j)):=by
   have h1:=hp;rw[L.mat]at h1;exact Kg bl.rows L.tkn hn av h1
  have cw:=Kh hp;rw[E.len]at cw;obtain⟨x0,ez⟩:=gx (l:=pv) (i:=j) (by rw[E.el.plen];omega);obtain⟨p0,pf⟩:=E1.el.pvAt ez;have b1:=(E1.box.at 0 _ rfl).1;have be:=E1.box.lt;have sl:=E1.el.blk.lt;obtain⟨W2,ee⟩:=nm (w1.setCell ⟨sb,3+j,none⟩ (.int .i64 r));have E2:Hid (ElI w W2 N sb B (u:Int) n m tp 0 (pv.set j r) tk vs M):=by rw[<-ee];exact E1.pvset (by omega) r
  rcases cw with rfl|⟨k,hk,rfl⟩
  ·have HF:Hid (pivR s.rows s.tk j=none):=by
    have:=cl.out
    cases hq:pivR s.rows s.tk j with
    |none=>rfl
    |some q=>rw[hq]at this;simp[pvI]at this <;> omega
   have L2:=MY (L.free bk.out av (by rw[E.el.plen];omega) HF.out);go_wp2;go_roundw
   case rel=>exact⟨j+1,_,_,_,_,_,by omega,by go_num,E2.out,L2.out⟩
   case measure=>simp[intOf];omega
  have HF:Hid (pivR s.rows s.tk j=some k):=by
   have:=cl.out
   cases hq:pivR s.rows s.tk j with
   |none=>rw[hq]at this;simp[pvI]at this <;> omega
   |some q=>
    rw[hq]at this
    simp[pvI]at this
    have e:q=k:=by omega
    show some q=some k
    rw[e]
  have t1:decide ((k:Int)<0)=false:=by simp
  obtain⟨fv,fx⟩:=ix (k:=k) (n:=n);have fz:(k:Int)<32:=by omega
  obtain⟨tb,ew⟩:=gx (l:=tk) (i:=k) (by rw[E2.el.tlen];omega);obtain⟨k0,kf⟩:=E2.el.tkAt ew;have d1:=(E2.box.at 0 _ rfl).1;have eS:=E2.box.lt;have dl:=E2.el.blk.lt;obtain⟨W3,ef⟩:=nm (W2.setCell ⟨sb,35+k,none⟩ (.bool true));have E3:Hid (ElI w W3 N sb B (u:Int) n m tp 0 (pv.set j (k:Int)) (tk.set k true) vs M):=by rw[<-ef];exact E2.tkset true
  obtain⟨g,c,v,A,c',l,rfl,dT,er,rfl,g0,gf,gl,ho⟩:=E3.at hk;obtain⟨y,hy⟩:=gx (l:=l) (i:=j);obtain⟨bb,yo,rfl,ga,eA⟩:=ho.num hy;have bh:=MY eA;have eP:=MY ho;have f1:=(E3.box.at 0 _ rfl).1;have eU:=E3.box.lt;have f2:=(E3.el.blk.at 1 _ rfl).1;have eV:=E3.el.blk.lt;have HY:=MY hy;have cD:=MY dT;have ci:=MY er;obtain⟨yb,cd⟩:=nm W3.heap.size;have eR:=MY cd;obtain⟨W4,ao⟩:=nm (W3.alloc (.cells #[.bool y.neg,.string y.n,.string y.d] 37));have ad:eB W3 W4:=by rw[<-ao];exact ak _ _
  have E4:=MY (E3.below ad);have Y4:Hid (Blk W4 yb [.bool y.neg,.string y.n,.string y.d] 37):=by rw[<-ao,<-cd];exact Blk.new _ _ _
  have bd:=MY (ho.below ad (No _));have ax:Hid (W4.cell? ⟨g,k,none⟩=some (.slice (some ⟨bb,yo,none⟩) m c')/\g<W4.heap.size):=⟨(ad.cell (p:=⟨g,k,none⟩) gl).trans g0,Nf gl ad.size⟩
  obtain⟨r0,ca,cx⟩:∃r0,s.rows[k]? = some r0/\l=r0.map trR:=by
   have h1:=cD.out;rw[L.mat]at h1;unfold trM at h1;rw[Ou]at h1
   cases hq:s.rows[k]? with
   |none=>rw[hq]at h1;cases h1
   |some q=>rw[hq]at h1;cases h1;exact⟨q,rfl,rfl⟩
  have cm:=MY (zU HF.out);have cC:Hid ((0:Int)=0/\∃(la:List Rt)(b:Rt),(∀a∈la,a.ok)/\b.ok/\l=la.map trR/\y=trR b/\scaleRow s.rows k j=mapO (fun x=>divR x b) la/\b.n≠0):=by
   have cb:=bl.rows.row r0 (Oc ca);have cv:j<r0.length:=by rw[cb.1];exact av
   have cr:at2 s.rows k j=r0[j]:=ut ca (Nx cv);refine⟨rfl,r0,at2 s.rows k j,cb.2,by rw[cr];exact cb.2 _ (OG _),cx,?_,?_,cm.2.2⟩
   ·have h1:=HY.out;rw[cx,Ou,Nx cv]at h1;rw[cr];exact(Option.some.inj h1).symm
   ·unfold scaleRow;rw[Oq,ca];rfl
  have HD:=MY (Kj B yb sb N 0 y (.slice (some ⟨bb,yo,none⟩) m c') l _ (scaleRow s.rows k j) W4.drew E4.box.drew Y4.drew E4.el.blk.drew E4.tab.drew bd.drew (by rw[ci.out];exact hm) (.inr cC.out));have e1:=(E4.box.at 0 _ rfl).1;have dd:=E4.box.lt;have e2:=(E4.el.blk.at 1 _ rfl).1;have df:=E4.el.blk.lt;have bm:Hid (∀V:World,V.heap=W4.heap->V.cell? ⟨B,0,none⟩=some (.pointer sb)/\B<V.heap.size/\V.cell? ⟨sb,1,none⟩=some (.slice g n c)/\sb<V.heap.size/\V.cell? ⟨g,k,none⟩=some (.slice (some ⟨bb,yo,none⟩) m c')/\g<V.heap.size):=fun V hV=>by
   simp only[World.cell?,hV];exact⟨e1,dd,e2,df,ax.1,ax.2⟩
  go_upto_region 9 with(first|(refine wR 37 bh.out ?_)|(refine wB cd rfl ?_ (cs:=[.bool y.neg,.string y.n,.string y.d])))
  change Code.wp _ _ _ _ (W3.alloc (.cells #[.bool y.neg,.string y.n,.string y.d] 37));rw[ao];simp only[PT];refine pF (S:=fun w'=>w'.cell? ⟨B,0,none⟩=some (.pointer sb)/\B<w'.heap.size/\w'.cell? ⟨sb,1,none⟩=some (.slice g n c)/\sb<w'.heap.size/\w'.cell? ⟨g,k,none⟩=some (.slice (some ⟨bb,yo,none⟩) m c')/\g<w'.heap.size) (Z:=fun _=>True) 15 [0,1,2,3,4,5,6,7,8,9,10,11,12,1013,14,1015] (by kernel_rfl) (by kernel_rfl) (bm.out _ rfl) trivial (fun ab bs=>?_);repeat(first|(refine jD (v:=?_) rfl rfl rfl ?_ ?_;rotate_left;(· intro w an;(try dsimp only at an);go_simp;try(with_reducible rfl));try simp only[PT])|(refine jC (v:=?_) rfl rfl rfl rfl ?_ ?_;rotate_left;(· intro w an;(try dsimp only at an);go_simp;try(with_reducible rfl));try simp only[PT]))
  refine fZ rfl rfl rfl rfl rfl (fun K hK=>?_);go_simp;refine HD.mono ?_;rintro e w5 ⟨v5,ac,k5,rfl,ba,cc,bw,bu,cf,ch⟩;have aA:W4.grownBy w5 (some sb):=aY (eh _ _) bu;have E5:=MY (E4.own aA bw E4.el.plen E4.el.tlen);have O5:Hid (aa w5 N 37 3 v5 (ac.map trC)):=ba.less (Nv E4.lo (NS E4.el.blk.lt));have Y5:Hid (ac.length=m):=cc.trans ci.out;obtain⟨A5,c5,e5⟩:=ba.slice;rw[N6,Y5.out]at e5;subst e5;obtain⟨g2,db,v2,A2,c2,l2,e2,dy,eo,di,g0,gf,gl,_⟩:=E5.at hk;obtain rfl:g=g2:=by injection e2 with e3;injection e3 with e3;injection e3
  have dr:=(E5.box.at 0 _ rfl).1;have bp:=E5.box.lt;have ds:=(E5.el.blk.at 1 _ rfl).1;have br:=E5.el.blk.lt;have HZ:=MY (And.intro cf ch);have ag:Hid (w5.cell? ⟨B,0,none⟩=some (.pointer sb)/\B<w5.heap.size/\w5.cell? ⟨sb,1,none⟩=some (.slice g n c)/\sb<w5.heap.size/\w5.cell? ⟨g,k,none⟩=some (.slice (some ⟨bb,yo,none⟩) m c')/\g<w5.heap.size):=⟨dr,bp,ds,br,by
   have bv:g≠sb:=fun e=>by
    have h1:=ax.1;have:=bd.out;subst e;exact absurd (E4.el.top.ne_blk E4.el.blk (by decide) g rfl) (fun h=>h rfl)
   exact aA.cell (a:=⟨g,k,none⟩) ax.1 (fun e=>bv (Option.some.inj e)),gl⟩
  obtain⟨W6,ar⟩:=nm (w5.setCell ⟨g,k,none⟩ (.slice A5 m c5));have E6:Hid (ElI w W6 N sb B (u:Int) n m (.slice g n c) k5 (pv.set j (k:Int)) (tk.set k true) (vs.set k (.slice A5 m c5)) (M.set k ac)):=by rw[<-ar];exact E5.put hk rfl O5.out Y5.out
  refine hK.out _ _ ⟨ag.out,trivial⟩ (fun ab=>?_);try simp only[PT]
  repeat(first|(refine jD (v:=?_) rfl rfl rfl ?_ ?_;rotate_left;(· intro w an;(try dsimp only at an);go_simp;try(with_reducible rfl));try simp only[PT])|(refine jC (v:=?_) rfl rfl rfl rfl ?_ ?_;rotate_left;(· intro w an;(try dsimp only at an);go_simp;try(with_reducible rfl));try simp only[PT]))
  refine pE rfl rfl rfl rfl rfl (fun K hK=>?_);go_simp;refine hK.out _ _ trivial (fun bt=>?_);try simp only[PT]
  refine aj ?_;try rw[ar]
  have S6:Hid (gU n m j k (stepO s j k) 0 k5 (M.set k ac)):=by
   rw[L.mat];exact gU.of_scale bl.rows hk cm.2.2 HZ.1 HZ.2
  have b1:=(E6.box.at 0 _ rfl).1;have be:=E6.box.lt;have q2:=(E6.el.blk.at 1 _ rfl).1;have eC:=E6.el.blk.lt;go_wp2_with fail;go_loopw [61] (fun z W=>∃(i:Nat)(e':Int) (vs:List Value) (M:List (List Tr)),i<=n/\z=.int .i64 i/\Hid (ElI w W N sb B (u:Int) n m (.slice g n c) e' (pv.set j (k:Int)) (tk.set k true) vs M)/\Hid (gU n m j k (stepO s j k) i e' M)) (fun z _=>n-(intOf z).toNat)
  case atStart=>exact⟨0,_,_,_,Nu _,rfl,E6.out,S6.out⟩
  case round=>
   obtain⟨i,e',vs,M,hi,rfl,E,S⟩:=hrel;by_cases bg:i<n
   case neg=>
    obtain rfl:n=i:=by omega
    have b1:=(E.box.at 0 _ rfl).1;have be:=E.box.lt;have q0:=(E.el.blk.at 0 _ rfl).1;have gg:=E.el.blk.lt;by_cases he:e'=0
    ·subst he;obtain⟨S1,eb,ec⟩:∃S1,stepO s j k=some S1/\M=trM S1:=by
      cases hq:stepO s j k with
      |none=>exact absurd rfl ((S.full).2 hq)
      |some S1=>exact⟨S1,rfl,((S.full).1 S1 hq).2⟩
     have L2:=MY (L.step bk.out av (by have:=E.el.plen;rw[List.length_set]at this;omega) (by omega) (by have:=E.el.tlen;rw[List.length_set]at this;exact this) HF.out eb ec);go_wp2_with fail;refine⟨⟨j+1,_,_,_,_,_,by omega,by go_num,E.out,L2.out⟩,?_⟩;simp[intOf];omega
    ·have cz:Hid (elimTo R u=none):=by
      have hS:stepO s j k=none:=by
       cases hq:stepO s j k with
       |none=>rfl
       |some S1=>exact absurd ((S.full).1 S1 hq).1 he
      exact zW (by omega) (L.bad HF.out hS)
     have t2:decide (¬e'=0)=true:=by simpa using he
     go_wp2_with fail;exact bodyPost_ret (v:= .tuple #[]) (by simp[results,results301]) rfl ⟨rfl,_,_,_,_,_,_,E.out,.inr ⟨he,cz.out⟩⟩
   obtain⟨g1,c1,v1,A1,cn,l1,e1,dv,en,rfl,g0,gf,gl,bx⟩:=E.at bg;obtain rfl:g=g1:=by injection e1 with e3;injection e3 with e3;injection e3
   obtain⟨f,hf⟩:=gx (l:=l1) (i:=j);obtain⟨co,fo,rfl,fe,ei⟩:=bx.num hf;have bh:=MY ei;have eD:=MY bx;obtain⟨fb,cu⟩:=nm wr.heap.size;obtain⟨W4,ao⟩:=nm (wr.alloc (.cells #[.bool f.neg,.string f.n,.string f.d] 37));have ad:eB wr W4:=by rw[<-ao];exact ak _ _
   have E4:=MY (E.below ad);have F4:Hid (Blk W4 fb [.bool f.neg,.string f.n,.string f.d] 37):=by rw[<-ao,<-cu];exact Blk.new _ _ _
   have bd:=MY (bx.below ad (No _));obtain⟨gp,cp,vp,Ap,al,lp,ep,ea,es,rfl,dk,fc,dn,ev⟩:=E4.at hk;obtain rfl:g=gp:=by injection ep with e3;injection e3 with e3;injection e3
   have cP:=MY ev;have bo:=MY (S.round bg av dv ea hf);have ax:Hid (W4.cell? ⟨g,i,none⟩=some (.slice (some ⟨co,fo,none⟩) m cn)):=(ad.cell (p:=⟨g,i,none⟩) gl).trans g0;have bi:Hid (W4.cell? ⟨g,k,none⟩=some (.slice Ap m al)/\g<W4.heap.size):=⟨dk,dn⟩
   have bc:Hid (l1.length=m/\lp.length=m):=⟨en,es⟩
   have f5:=(F4.at 1 _ rfl).1;have eY:=F4.lt;obtain⟨fi,fl⟩:=ix (k:=i) (n:=n);go_upto_region 14 with(first|(refine wR 37 bh.out ?_)|(refine wB cu rfl ?_ (cs:=[.bool f.neg,.string f.n,.string f.d])))
   change Code.wp _ _ _ _ (wr.alloc (.cells #[.bool f.neg,.string f.n,.string f.d] 37));rw[ao];simp only[PT];by_cases hip:i=k
   ·subst hip;have S2:=MY (bo.1 (.inl rfl));go_wp2_with fail;refine⟨⟨i+1,_,_,_,by omega,by go_num,E4.out,S2.out⟩,?_⟩;simp[intOf];omega
   have em:¬(i:Int)=(k:Int):=by omega
   by_cases hz:f.n=⟨#[]⟩
   ·have S2:=MY (bo.1 (.inr hz));rw[hz]at f5;go_wp2_with fail;refine⟨⟨i+1,_,_,_,by omega,by go_num,E4.out,S2.out⟩,?_⟩;simp[intOf];omega
   obtain⟨o,et,eu⟩:=bo.2 hip hz;have cN:=MY eu;have HD:=MY (Kk B fb sb N e' f (.slice (some ⟨co,fo,none⟩) m cn) (.slice Ap m al) l1 lp _ o W4.drew E4.box.drew F4.drew E4.el.blk.drew E4.tab.drew bd.drew cP.drew (by rw[bc.1,bc.2]) (by rw[bc.2];exact hm) et);have bm:Hid (∀V:World,V.heap=W4.heap->V.cell? ⟨B,0,none⟩=some (.pointer sb)/\B<V.heap.size/\V.cell? ⟨sb,1,none⟩=some (.slice g n c)/\sb<V.heap.size/\V.cell? ⟨g,k,none⟩=some (.slice Ap m al)/\g<V.heap.size):=fun V hV=>by
    simp only[World.cell?,hV];exact⟨(E4.box.at 0 _ rfl).1,E4.box.lt,(E4.el.blk.at 1 _ rfl).1,E4.el.blk.lt,bi.1,bi.2⟩
   have gb:=uC hz;go_wp2_with fail;refine aJ (S:=fun w'=>w'.cell? ⟨B,0,none⟩=some (.pointer sb)/\B<w'.heap.size/\w'.cell? ⟨sb,1,none⟩=some (.slice g n c)/\sb<w'.heap.size/\w'.cell? ⟨g,k,none⟩=some (.slice Ap m al)/\g<w'.heap.size) [0,1,2,3,4,5,6,7,8,9,10,11,12,13,1014,15,1016] (bm.out _ rfl) (fun ab=>?_);repeat refine ay ?_
   refine az fun K hK=>?_;go_simp;refine HD.mono ?_;rintro e w5 ⟨v5,ac,k5,rfl,ba,cc,bw,bu,cf,ch⟩;have aA:W4.grownBy w5 (some sb):=aY (eh _ _) bu;have E5:=MY (E4.own aA bw E4.el.plen E4.el.tlen);have O5:Hid (aa w5 N 37 3 v5 (ac.map trC)):=ba.less (Nv E4.lo (NS E4.el.blk.lt));have Y5:Hid (ac.length=m):=cc.trans bc.1;obtain⟨A5,c5,e5⟩:=ba.slice;rw[N6,Y5.out]at e5;subst e5;have HZ:=MY (cN.out k5 ac cf ch);have bv:g≠sb:=E4.el.top.ne_blk E4.el.blk (by decide) g rfl;obtain⟨g2,db,v2,A2,c2,l2,e2,dy,eo,di,g0,gf,gl,_⟩:=E5.at bg;obtain rfl:g=g2:=by injection e2 with e3;injection e3 with e3;injection e3
   have cq:w5.cell? ⟨g,k,none⟩=some (.slice Ap m al):=aA.cell (a:=⟨g,k,none⟩) bi.1 (fun e=>bv (Option.some.inj e));have ag:Hid (w5.cell? ⟨B,0,none⟩=some (.pointer sb)/\B<w5.heap.size/\w5.cell? ⟨sb,1,none⟩=some (.slice g n c)/\sb<w5.heap.size/\w5.cell? ⟨g,k,none⟩=some (.slice Ap m al)/\g<w5.heap.size):=⟨(E5.box.at 0 _ rfl).1,E5.box.lt,(E5.el.blk.at 1 _ rfl).1,E5.el.blk.lt,cq,gl⟩
   obtain⟨W6,ar⟩:=nm (w5.setCell ⟨g,i,none⟩ (.slice A5 m c5));have E6:Hid (ElI w W6 N sb B (u:Int) n m (.slice g n c) k5 (pv.set j (k:Int)) (tk.set k true) (vs.set i (.slice A5 m c5)) (M.set i ac)):=by rw[<-ar];exact E5.put bg rfl O5.out Y5.out
   have bn:Hid (W6.cell? ⟨B,0,none⟩=some (.pointer sb)/\B<W6.heap.size/\W6.cell? ⟨sb,1,none⟩=some (.slice g n c)/\sb<W6.heap.size/\W6.cell? ⟨g,k,none⟩=some (.slice Ap m al)/\g<W6.heap.size):=⟨(E6.box.at 0 _ rfl).1,E6.box.lt,(E6.el.blk.at 1 _ rfl).1,E6.el.blk.lt,by rw[<-ar];exact DR cq (by simp;omega),by rw[<-ar];simpa[World.setCell]using gl⟩
   refine hG hK (by exact ag.out) fun ab=>?_;clear hK K;repeat refine ay ?_
   refine az fun K hK=>?_;go_simp;refine hG hK (by exact bn.out) fun ab=>?_;clear hK K;refine aj ?_;go_wp2_with fail;refine⟨⟨i+1,_,_,_,by omega,by go_num,E6.out,HZ.out⟩,?_⟩;simp[intOf];omega
def uF(i:Bool)(W)(hT:Tab W):Calls prog 33 #[.int .i64 (if i then 1 else 0),.int .i64 1] W (Ret W (.tuple #[.agg #[.bool (if i then aq else ae).neg,.string (bs (if i then aq else ae).n),.string (bs (if i then aq else ae).d)],.int .i64 0])):=by
 cases i with
 |false=>
  have h:=ej 0 1 W (by omega) (by omega) (by omega) hT
  have e:lowR false 0 1=ae:=by simp[lowR,ae]
  rw[e]at h
  exact h
 |true=>
  have h:=ej 1 1 W (by omega) (by omega) (by omega) hT
  have e:lowR false 1 1=aq:=by simp[lowR,aq]
  rw[e]at h
  exact h
def qT(i:Bool)(w)(hT:Tab w):Calls prog 321 #[.int .i64 (if i then 1 else 0)] w (Ret w (.agg #[.bool (if i then aq else ae).neg,.string (bs (if i then aq else ae).n),.string (bs (if i then aq else ae).d)])):=by
 have ag:=MY (fun W hW=>uF i W hW);obtain⟨r,hr⟩:=nm (if i then aq else ae);obtain⟨k,hk⟩:=nm (if i then 1 else 0:Int);rw[hr,hk]at ag⊢;obtain⟨N,hN⟩:=nm w.heap.size;have HN:=MY hN;have K2:=Blk.new w [.bool false,.string ⟨#[]⟩,.string ⟨#[]⟩] 37;rw[hN]at K2;have B1:=ak w (.cells #[.bool false,.string ⟨#[]⟩,.string ⟨#[]⟩] 37);obtain⟨W1,ar⟩:=nm (w.alloc (.cells #[.bool false,.string ⟨#[]⟩,.string ⟨#[]⟩] 37));rw[ar]at K2 B1;have HB:=MY B1;have HK:=MY K2;have HT:=MY (hT.below B1);go_enter func321,ntmps321;go_wp2_with fail;refine(ag.out W1 HT.out).mono ?_;rintro e w2 ⟨rfl,al⟩;have ad:=MY (HB.trans (al.mono HB.size));have ao:=MY (HK.below al HK.lt);obtain⟨M,hM⟩:=nm w2.heap.size;obtain⟨W3,ac⟩:=nm (w2.alloc (.cells #[.bool r.neg,.string (bs r.n),.string (bs r.d)] 37));have X3:=Blk.new w2 [.bool r.neg,.string (bs r.n),.string (bs r.d)] 37;rw[hM,ac]at X3;have X3:=MY X3;have an:Hid (eB w W3):=by rw[<-ac];exact ad.alloc ad.size _
 have ab:Hid (Blk W3 N [.bool false,.string ⟨#[]⟩,.string ⟨#[]⟩] 37):=by rw[<-ac];exact ao.alloc _
 obtain⟨z0,av⟩:=ab.at 0 _ rfl;obtain⟨z1,ax⟩:=ab.at 1 _ rfl;obtain⟨z2,aA⟩:=ab.at 2 _ rfl;have zl:=ab.lt;go_wp2_with (refine wR 37 (ai X3.out) ?_);exact bodyPost_ret (gm _ 2 results321 N _ _ _ _ _ rfl (ab.put3 _ _ _)) rfl ⟨rfl,uw an.out (by rw[HN.out];omega) _ _ _⟩
structure fS(w:World)(n:Nat)(av bv:Value)(M:List bQ)(b:List Rt):Prop where
 mat:gj w av M
 rhs:RowC w 3 bv (b.map aS)
 small:n<=32
 mlen:M.length=n
 blen:b.length=n
 row:∀r∈M,r.l.length=n/\∀x∈r.l,x.ok
 bok:∀x∈b,x.ok
def fS.below{w W}{n:Nat}{av bv}{M:List bQ}{b}(h:fS w n av bv M b)(hb:eB w W):fS W n av bv M b:=⟨h.mat.below hb,h.rhs.below hb,h.small,h.mlen,h.blen,h.row,h.bok⟩
def RowC.one{w W}{v}{L:List Value}(h:RowC w 1 v (L.map fun x=>[x]))(hb:eB w W){k:Nat}{x}(hx:L[k]? = some x):∃b o c,v=.slice (some ⟨b,o,none⟩) L.length c/\W.cell? ⟨b,o+k,none⟩=some x/\b<W.heap.size:=by
 obtain⟨A,c,rfl,_,H⟩:=h;obtain⟨bb,off,rfl,ab,hc⟩:=H k [x] (by rw[Ou,hx];rfl);have q0:=(hb.cell (p:=⟨bb,_,none⟩) ab).trans (hc 0 _ rfl);simp only[Ov,Na]at q0;exact⟨bb,off,c,by rw[N6],q0,Nf ab hb.size⟩
def gj.at{w W}{v}{M:List bQ}(h:gj w v M)(hb:eB w W){k:Nat}{r:bQ}(hr:M[k]? = some r):∃b o c A c',v=.slice (some ⟨b,o,none⟩) M.length c/\W.cell? ⟨b,o+k,none⟩=some (.slice A r.l.length c')/\b<W.heap.size/\r.v=.slice A r.l.length c':=by
 have ht:=h.top;have e:(M.map fun r=>[r.v])=(M.map (·.v)).map fun x=>[x]:=by rw[List.map_map];rfl
 rw[e]at ht;obtain⟨b,o,c,e1,e2,e3⟩:=ht.one hb (k:=k) (x:=r.v) (by rw[Ou,hr];rfl);obtain⟨A,c',e4⟩:=(h.rows r (Oc hr)).len;rw[N6]at e1 e4;exact⟨b,o,c,A,c',e1,by rw[e2,e4],e3,e4⟩
def Aj{w}{n:Nat}{av bv}{M:List bQ}{b}(h:fS w n av bv M b):Calls prog 320 #[av] w (Ret w (.int .i64 (n:Int))):=by
 have hn:=h.mlen;have ab:=h.small
 cases M with
 |nil=>
  obtain rfl:0=n:=hn
  obtain⟨A,c,rfl⟩:=h.mat.top.len
  simp only[List.map_nil,ND]
  go_enter func320,ntmps320
  go_wp2
  go_ret
  exact⟨rfl,NB _ _⟩
 |cons r M=>
  obtain⟨bb,o,c,A,c',rfl,q0,ql,_⟩:=h.mat.at (NB _ w) (k:=0) (r:=r) rfl
  rw[(h.row r (by simp)).1]at q0
  rw[hn]
  rw[Na]at q0
  have ac:¬(n:Int)=0:=by simp at hn;omega
  have ad:(0:Int)<(n:Int):=by omega
  go_enter func320,ntmps320
  go_wp2
  go_ret
  exact⟨rfl,NB _ _⟩
def Kn{w}{n:Nat}{av bv}{M:List bQ}{b}(h:fS w n av bv M b):Calls prog 318 #[av] w (Ret w (.int .i64 0)):=by
 have ac:=h.small;have hn:=h.mlen;obtain⟨A,c,ev⟩:=h.mat.top.len;rw[N6,hn]at ev;subst ev;have H:=MY h;have HU:=MY (fun W (hW:eB w W)=>Aj (h.below hW));have HN:=MY hn;go_enter func318,ntmps318;go_wp2_with fail;go_loopw [7] (fun z W=>∃k:Nat,k<=n/\z=.int .i64 k/\Hid (eB w W)) (fun z _=>n-(intOf z).toNat)
 case atStart=>exact⟨0,Nu _,rfl,NB _ _⟩
 case round=>
  obtain⟨k,hk,rfl,B⟩:=hrel;by_cases al:k<n
  case neg=>
   obtain rfl:n=k:=by omega
   go_wp2;go_ret;exact⟨rfl,B.out⟩
  obtain⟨r,hr⟩:=gx (l:=M) (i:=k) (by have:=HN.out;omega);obtain⟨bb,o,c2,A',c',e,q0,ql,_⟩:=H.mat.at B.out hr;rw[HN.out]at e
  cases e;rw[(H.row r (Oc hr)).1]at q0;obtain⟨ad,ag⟩:=ix (k:=k) (n:=n);go_wp2_with fail;refine(HU.out wr B.out).mono ?_;rintro e w2 ⟨rfl,ab⟩;have B2:=MY (B.trans (ab.mono B.size));go_wp2;go_roundw
  case rel=>exact⟨k+1,by omega,by go_num,B2.out⟩
  case measure=>simp[intOf];omega
structure qU(w:World)(v:Value)(R:List bQ):Prop where
 mat:gj w v R
 few:R.length<=1024
 row:∀r∈R,r.l.length<=32/\∀x∈r.l,x.ok
def qU.below{w W}{v}{R:List bQ}(h:qU w v R)(hb:eB w W):qU W v R:=⟨h.mat.below hb,h.few,h.row⟩
def Ak{w}{n:Nat}{av bv lv}{M:List bQ}{b}(h:fS w n av bv M b)(hl:RowC w 1 lv [[bv]])(g:Nat)(hg:Blk w g [av,lv] 320):Calls prog 332 #[.slice g 2 2] w fun e w'=>eB w w'/\∃v,e=.returned v/\qU w' v (M++[⟨bv,b⟩]):=by
 obtain⟨Ab,cb,eb⟩:=h.rhs.len;refine(H6 _ [(av,M.map fun r=>[r.v]),(lv,[[bv]])] w ⟨RowC.of_blk hg _ rfl (by simp) rfl 2 (No _),?_,?_,?_,?_,by simp⟩).mono ?_
 ·intro x hx;simp at hx;rcases hx with rfl|rfl
  ·exact h.mat.top
  ·exact hl
 ·intro x hx y hy;simp at hx;rcases hx with rfl|rfl
  ·obtain⟨r,_,rfl⟩:=OE.1 hy;rfl
  ·simp at hy;subst hy;rfl
 ·intro x hx y hy u hu;simp at hx;rcases hx with rfl|rfl
  ·obtain⟨r,hr,rfl⟩:=OE.1 hy;simp at hu;subst hu;obtain⟨A,c,e⟩:=(h.mat.rows r hr).len;rw[e];rfl
  ·simp at hy;subst hy;simp at hu;subst hu;rw[eb];rfl
 ·intro x hx;simp at hx;rcases hx with rfl|rfl
  ·simp[h.mlen];have:=h.small;omega
  ·simp
 ·rintro e w' ⟨hb,v,rfl,ho⟩;have hr:=ho.row;have e:(List.flatMap (fun x=>x.2) [(av,M.map fun r=>[r.v]),(lv,[[bv]])])=((M++[⟨bv,b⟩]:List bQ).map fun r=>[r.v]):=by simp
  rw[e]at hr;refine⟨hb,v,rfl,⟨hr,fun r hr=>?_⟩,by simp[h.mlen];have:=h.small;omega,fun r hr=>?_⟩
  ·rcases Of.1 hr with hr|hr
   ·exact(h.mat.rows r hr).below hb
   ·rw[Oi]at hr;subst hr;exact h.rhs.below hb
  ·rcases Of.1 hr with hr|hr
   ·obtain⟨h1,h2⟩:=h.row r hr;exact⟨by rw[h1];exact h.small,h2⟩
   ·rw[Oi]at hr;subst hr;exact⟨by show b.length<=32;rw[h.blen];exact h.small,h.bok⟩
def Ko{w}{n:Nat}{av bv lv}{M:List bQ}{b}(h:fS w n av bv M b)(hl:RowC w 1 lv [[bv]]):Calls prog 317 #[av,lv] w (Ret w (.int .i64 0)):=by
 have aA:=h.small;have hn:=h.mlen;obtain⟨A,c,ev⟩:=h.mat.top.len;obtain⟨Al,cl,el⟩:=hl.len;rw[N6,hn]at ev;simp only[M6,ND,Nm]at el;subst ev el;have K1:=Blk.new w [.slice A n c,.slice Al 1 cl] 320;have ab:=Ak (h.below (ak w (.cells #[.slice A n c,.slice Al 1 cl] 320))) (hl.below (ak w (.cells #[.slice A n c,.slice Al 1 cl] 320))) _ K1;have B1:=ak w (.cells #[.slice A n c,.slice Al 1 cl] 320);obtain⟨W1,ag⟩:=nm (w.alloc (.cells #[.slice A n c,.slice Al 1 cl] 320));rw[ag]at ab B1;have HC:=MY ab;have ad:=MY B1;clear h hl hn K1 ab B1;have ar:¬(32:Int)<(n:Int):=by omega
 go_enter func317,ntmps317;go_wp2_with fail;refine HC.mono ?_;rintro e w2 ⟨al,v,rfl,hr⟩;have HR:=MY hr;have an:=MY (ad.trans (al.mono ad.size));obtain⟨m,hm⟩:=nm ((M++[⟨bv,b⟩]:List bQ).length);have HM:=MY hm;have ao:=hr.few;rw[hm]at ao;obtain⟨A2,c2,e2⟩:=hr.mat.top.len;rw[N6,hm]at e2;subst e2;clear hr al hm ag HC;go_wp2_with fail;go_loopw [6,15] (fun _ z W=>∃k:Nat,k<=m/\z=.int .i64 k/\w2=W) (fun _ z _=>m-(intOf z).toNat)
 case atStart=>exact⟨0,Nu _,rfl,by first|rfl|trivial⟩
 case round=>
  obtain⟨k,hk,rfl,rfl⟩:=hrel;by_cases bd:k<m
  case neg=>
   obtain rfl:m=k:=by omega
   go_wp2;go_ret;exact⟨rfl,an.out⟩
  obtain⟨r,hr⟩:=gx (l:=(M++[⟨bv,b⟩]:List bQ)) (i:=k) (by have:=HM.out;omega);obtain⟨bb,o,c3,A',c',e,q0,ql,_⟩:=HR.mat.at (NB _ _) hr;rw[HM.out]at e
  cases e;have ac:=(HR.row r (Oc hr)).1;obtain⟨x,hx⟩:=nm r.l.length;rw[hx]at q0 ac;have ax:¬(32:Int)<(x:Int):=by omega
  obtain⟨ba,bc⟩:=ix (k:=k) (n:=m);clear hr hx;go_wp2;go_roundw
  case rel=>exact⟨k+1,by omega,by go_num,by first|rfl|trivial⟩
  case measure=>simp[intOf];omega
def Kq{w}{n:Nat}{av bv lv}{M:List bQ}{b}(h:fS w n av bv M b)(hl:RowC w 1 lv [[bv]])(hT:Tab w):Calls prog 319 #[av,lv] w (Ret w (.int .i64 0)):=by
 have hn:=h.mlen;obtain⟨A,c,ev⟩:=h.mat.top.len;obtain⟨Al,cl,el⟩:=hl.len;rw[N6,hn]at ev;simp only[M6,ND,Nm]at el;subst ev el;have K1:=Blk.new w [.slice A n c,.slice Al 1 cl] 320;have al:=Ak (h.below (ak w (.cells #[.slice A n c,.slice Al 1 cl] 320))) (hl.below (ak w (.cells #[.slice A n c,.slice Al 1 cl] 320))) _ K1;have B1:=ak w (.cells #[.slice A n c,.slice Al 1 cl] 320);obtain⟨W1,aA⟩:=nm (w.alloc (.cells #[.slice A n c,.slice Al 1 cl] 320));rw[aA]at al B1;have HC:=MY al;have ag:=MY B1;have HT:=MY hT;clear h hl hn K1 al B1 hT;go_enter func319,ntmps319;go_wp2_with fail;refine HC.mono ?_;rintro e w2 ⟨ba,v,rfl,hr⟩;have HR:=MY hr;have ac:=MY (ag.trans (ba.mono ag.size));obtain⟨m,hm⟩:=nm ((M++[⟨bv,b⟩]:List bQ).length);have HM:=MY hm;have bi:=hr.few;rw[hm]at bi;obtain⟨A2,c2,e2⟩:=hr.mat.top.len;rw[N6,hm]at e2;subst e2;clear hr ba hm aA HC ag;go_wp2_with fail;go_loopw [6,14] (fun _ z W=>∃k:Nat,k<=m/\z=.int .i64 k/\Hid (eB w2 W)) (fun _ z _=>m-(intOf z).toNat)
 case atStart=>exact⟨0,Nu _,rfl,NB _ _⟩
 case round=>
  obtain⟨k,hk,rfl,B⟩:=hrel;by_cases bp:k<m
  case neg=>
   obtain rfl:m=k:=by omega
   go_wp2;go_ret;exact⟨rfl,ac.trans (B.mono ac.size)⟩
  obtain⟨r,hr⟩:=gx (l:=(M++[⟨bv,b⟩]:List bQ)) (i:=k) (by have:=HM.out;omega);obtain⟨bb,o,c3,A',c',e,q0,ql,er⟩:=HR.mat.at B.out hr;rw[HM.out]at e
  cases e;have ax:=(HR.row r (Oc hr)).1;have an:=MY (HR.mat.rows r (Oc hr));have bh:=MY (HR.row r (Oc hr)).2;obtain⟨x,hx⟩:=nm r.l.length;have HX:=MY hx;rw[er]at an;rw[hx]at q0 ax an;obtain⟨bk,bl⟩:=ix (k:=k) (n:=m);clear hr hx er;go_wp2_with fail;go_loopw [8,20] (fun _ z W=>∃j:Nat,j<=x/\z=.int .i64 j/\Hid (eB w2 W)) (fun _ z _=>x-(intOf z).toNat)
  case atStart=>exact⟨0,Nu _,rfl,B.out⟩
  case round=>
   clear B;obtain⟨j,hj,rfl,B⟩:=hrel;by_cases bo:j<x
   case neg=>
    obtain rfl:x=j:=by omega
    go_wp2_with fail;refine⟨⟨k+1,by omega,by go_num,B.out⟩,?_⟩;simp[intOf];omega
   obtain⟨y,hy⟩:=gx (l:=r.l) (i:=j) (by have:=HX.out;omega);have be:=bh.out y (Oc hy);obtain⟨A4,c4,e4,_,H4⟩:=an.out;rw[N6,HX.out]at e4
   cases e4;obtain⟨b4,o4,rfl,bd,hc⟩:=H4 j (aS y) (by rw[Ou,hy];rfl);have bg:Hid (wr.rangeAt b4 (o4+j*3) [.bool y.neg,.string (bs y.n),.string (bs y.d)]):=fun i u hu=>(B.cell (p:=⟨b4,_,none⟩) bd).trans (hc i u hu);obtain⟨ab,ar⟩:=nm wr.heap.size;obtain⟨WA,ao⟩:=nm (wr.alloc (.cells #[.bool y.neg,.string (bs y.n),.string (bs y.d)] 37));have XA:=MY (Blk.new wr [.bool y.neg,.string (bs y.n),.string (bs y.d)] 37);have BA:=MY (B.alloc B.size (.cells #[.bool y.neg,.string (bs y.n),.string (bs y.d)] 37));rw[ao]at XA BA;rw[ar]at XA;have ad:=iP y.neg (bs y.n) (bs y.d) WA (HT.below (ac.trans (BA.mono ac.size)));rw[gY (bN.of be)]at ad;have ad:=MY ad;obtain⟨bm,bn⟩:=ix (k:=j) (n:=x);clear hy be H4 hc bd q0 ql;go_upto_region 7 with(first|(refine wR 37 bg.out ?_)|(refine wB ar rfl ?_ (cs:=[.bool y.neg,.string (bs y.n),.string (bs y.d)])))
   change Code.wp _ _ _ _ (wr.alloc (.cells #[.bool y.neg,.string (bs y.n),.string (bs y.d)] 37));rw[ao];simp only[PT];go_wp2_with (refine wR 37 (ai XA.out) ?_);refine ad.mono ?_;rintro e w5 ⟨rfl,bc⟩;have B5:=MY (BA.trans (bc.mono BA.size));clear bc ao ar;go_wp2_with fail;refine⟨⟨j+1,by omega,by go_num,B5.out⟩,?_⟩;simp[intOf];omega
def Kr{w}{n:Nat}{av bv}{M:List bQ}{b}(h:fS w n av bv M b)(hT:Tab w):Calls prog 299 #[av,bv,.slice none 0 0] w (Ret w (.int .i64 0)):=by
 have hn:=h.mlen;have bc:=h.blen;have bg:=h.small;obtain⟨A,c,ev⟩:=h.mat.top.len;obtain⟨Ab,cb,eb⟩:=h.rhs.len;rw[N6,hn]at ev;rw[N6,bc]at eb;subst ev eb;have ax:=MY (fun W (hW:eB w W) lv (hl:RowC W 1 lv [[.slice Ab n cb]])=>Ko (h.below hW) hl);have ar:=MY (fun W (hW:eB w W)=>Kn (h.below hW));have aA:=MY (fun W (hW:eB w W) lv (hl:RowC W 1 lv [[.slice Ab n cb]])=>Kq (h.below hW) hl (hT.below hW));have ao:Hid (∀W,Calls prog 316 #[.slice none 0 0] W fun e W'=>e=.returned (.slice none 0 0)/\W=W'):=fun W=>by
  have hq:∀W,(binOp .eql 320 (.slice none 0 0) (.slice none 0 0)).run prog W=.ok (.bool true) W:=fun _=>by kernel_rfl
  go_enter func316,ntmps316;go_wp2;go_ret;exact⟨rfl,rfl⟩
 go_enter func299,ntmps299;go_wp2_with fail;refine(ao.out w).mono ?_;rintro e w1 ⟨rfl,rfl⟩;obtain⟨xb,al⟩:=nm w.heap.size;have be:=MY al;obtain⟨W3,bb⟩:=nm (w.alloc (.cells #[.slice Ab n cb] 241));have X3:=MY (Blk.new w [.slice Ab n cb] 241);have B3:=MY (ak w (.cells #[.slice Ab n cb] 241));rw[bb]at X3 B3;rw[al]at X3;go_wp2_with (at_builtin;refine pg qz rfl (.tmp 9) (.tmp 11) rfl w.heap.size (.slice none 0 0) [] rfl (aa.none_ _ _ _ _) xb 1 [.slice Ab n cb] 241 rfl X3.out rfl rfl (by simp) B3.size (fun v8 w8 ho hg=>?_);have O8:=MY ho;have B8:=MY (B3.grown hg B3.size (fun k e=>by cases e));clear ho hg);have R8:Hid (RowC w8 1 v8 [[.slice Ab n cb]]):=O8.row;obtain⟨A8,c8,rfl⟩:=O8.slice;simp only[M9,M6,ND,Nm]at *;refine(ax.out w8 B8.out _ R8.out).mono ?_;rintro e w9 ⟨rfl,ag⟩;have B9:=MY (B8.trans (ag.mono B8.size));have R9:=MY (R8.below ag);go_wp2_with fail;refine(ar.out w9 B9.out).mono ?_;rintro e bd ⟨rfl,ab⟩;have ac:=MY (B9.trans (ab.mono B9.size));have ba:=MY (R9.below ab);go_wp2_with fail;refine(aA.out bd ac.out _ ba.out).mono ?_;rintro e bh ⟨rfl,ad⟩;have an:=MY (ac.trans (ad.mono ac.size));go_wp2;go_ret;exact⟨rfl,an.out⟩
def oq{P}{o:Oper}{a:Act}{w}{K:Act->World->Prop}{Q:Exit->Act->World->Prop}{t e}{k bytes:Nat}(hI:bE P t e k bytes)(s x)(ho:o.op=.call {callee:= .builtin .append,args:=#[s,x],argTypes:=#[t,t]})(B:Nat)(v)(L:List (List Value))(hs:a.eval s=v)(ac:aa w B e k v L)(g c:Nat)(xc)(T)(hx:a.eval x=.slice g 1 c)(hb:Blk w g xc T)(hl:xc.length=k)(h1:(xc.all fun u=>u.oneCell')=true)(ao:L.length<=16777216)(ab:B<=w.heap.size)(h:∀v' w',aa w' B e k v' (L++[xc])->w.grownBy w' v.ownBlock->(v'.ownBlock=v.ownBlock\/v'.ownBlock=some w.heap.size)->K (a.put o.dst v') w'):o.wp P a w K Q:=by
 obtain⟨i,z,ht,hi,hz,ad,an,ar,hk,ag⟩:=hI;have al:(L.length+1)*bytes<=140737488355328:=Nv (Nat.mul_le_mul (show L.length+1<=16777217 by omega) ag) (by omega);refine jY w s x t ho B e i z k bytes ht hi hz ad an ar hk v L.length L.flatten hs ac.1 (g+1) (some ⟨g,0,none⟩) 1 c xc hx (pd hb (by omega)) (fun u hu=>Od.1 h1 u hu) (by unfold maxLen;omega) al ab (fun v' w' h2 h3 h4=>h v' w' ⟨?_,?_⟩ h3 h4)
 ·rw[Oe,List.flatten_append];simpa using h2
 ·intro c hc;rcases Of.1 hc with hc|hc
  ·exact ac.2 c hc
  ·simp only[Og,Oh,or_false]at hc;subst hc;exact hl
def ot{P}{ops}{rest}{o:Oper}{a:Act}{w}{Q}{t e}{k bytes:Nat}(hI:bE P t e k bytes)(ag:o.guard=none)(s x)(ho:o.op=.call {callee:= .builtin .append,args:=#[s,x],argTypes:=#[t,t]})(B:Nat)(v)(L:List (List Value))(hs:a.eval s=v)(ad:aa w B e k v L)(g c:Nat)(xc)(T)(hx:a.eval x=.slice g 1 c)(hb:Blk w g xc T)(hl:xc.length=k)(h1:(xc.all fun u=>u.oneCell')=true)(ac:L.length<=16777216)(ab:B<=w.heap.size)(h:∀v' w',aa w' B e k v' (L++[xc])->w.grownBy w' v.ownBlock->(v'.ownBlock=v.ownBlock\/v'.ownBlock=some w.heap.size)->wpList P ops Q rest (a.put o.dst v') w'):wpList P ops Q (o::rest) a w:=
 wpList_plain ag fun _ hK=>oq hI s x ho B v L hs ad g c xc T hx hb hl h1 ac ab fun v' w' h2 h3 h4=>hK _ _ (h v' w' h2 h3 h4)
def cE(s:ElS)(u i:Nat):Rt:=match s.piv.getD i none with
 |some q=>at2 s.rows q u
 |none=>ae
structure SoI(w W:World)(sb:Nat)(l:List Value)(k:Int)(xv:Value)(xs:List Tr)(pv:Value)(ys:List Tr):Prop where
 blk:Blk W sb (.int .i64 k::l) 416
 gr:w.grownBy W (some sb)
 x:aa W w.heap.size 37 3 xv (xs.map trC)
 p:aa W w.heap.size 37 3 pv (ys.map trC)
 ne:∀g,xv.ownBlock=some g->pv.ownBlock≠some g
 lo:sb<w.heap.size
section
variable {w W W':World} {sb:Nat} {l:List Value} {k:Int} {xv pv:Value} {xs ys:List Tr}
def SoI.below(h:SoI w W sb l k xv xs pv ys)(hb:eB W W'):SoI w W' sb l k xv xs pv ys:=
 ⟨h.blk.below hb h.blk.lt,qS h.gr (hb.mono h.gr.size),h.x.below hb (No _),h.p.below hb (No _),h.ne,h.lo⟩
def SoI.calc(h:SoI w W sb l k xv xs pv ys){k':Int}(hb:Blk W' sb (.int .i64 k'::l) 416)(hg:W.grownBy W' (some sb)):SoI w W' sb l k' xv xs pv ys:=
 ⟨hb,aY h.gr hg,h.x.by_sb h.blk hg,h.p.by_sb h.blk hg,h.ne,h.lo⟩
def SoI.own(h:SoI w W sb l k xv xs pv ys){v}{L:List (List Value)}(ho:aa W w.heap.size 37 3 v L)(hg:W.grownBy W' v.ownBlock):Blk W' sb (.int .i64 k::l) 416/\w.grownBy W' (some sb):=
 ⟨h.blk.grown hg (fun e=>by have:=ho.ge e.symm;have:=h.lo;omega),⟨hg.os.trans h.gr.os,hg.tape.trans h.gr.tape,hg.output.trans h.gr.output,Nv h.gr.size hg.size,fun b hb hr=>(hg.block b (Nf hb h.gr.size) (fun e=>by have:=ho.ge e.symm;omega)).trans (h.gr.block b hb hr)⟩⟩
def SoI.appX(h:SoI w W sb l k xv xs pv ys){xv'}{z:Tr}(ho:aa W' w.heap.size 37 3 xv' ((xs++[z]).map trC))(hg:W.grownBy W' xv.ownBlock)(hv:xv'.ownBlock=xv.ownBlock\/xv'.ownBlock=some W.heap.size):SoI w W' sb l k xv' (xs++[z]) pv ys:=by
 obtain⟨h1,h2⟩:=h.own h.x hg;refine⟨h1,h2,ho,h.p.of_block fun g e=>hg.block g (h.p.lt e) (fun e2=>h.ne g e2.symm e),fun g e e2=>?_,h.lo⟩;rcases hv with hv|hv
 ·exact h.ne g (hv.symm.trans e) e2
 ·have:=h.p.lt e2;rw[hv]at e
  cases e;omega
def SoI.appP(h:SoI w W sb l k xv xs pv ys){pv'}{z:Tr}(ho:aa W' w.heap.size 37 3 pv' ((ys++[z]).map trC))(hg:W.grownBy W' pv.ownBlock)(hv:pv'.ownBlock=pv.ownBlock\/pv'.ownBlock=some W.heap.size):SoI w W' sb l k xv xs pv' (ys++[z]):=by
 obtain⟨h1,h2⟩:=h.own h.p hg;refine⟨h1,h2,h.x.of_block fun g e=>hg.block g (h.x.lt e) (fun e2=>h.ne g e e2.symm),ho,fun g e e2=>?_,h.lo⟩;rcases hv with hv|hv
 ·exact h.ne g e (hv.symm.trans e2)
 ·have:=h.x.lt e;rw[hv]at e2
  cases e2;omega
end
def qV{w}{N sb:Nat}{u:Int}{tp}{pv:List Int}{tk:List Bool}{vs}{M:List (List Tr)}{m q j:Nat}{r:List Tr}{t:Tr}(h:ElZ w N sb 0 u tp pv tk vs M)(hl:M[q]? = some r)(hm:r.length=m)(ht:r[j]? = some t):∃g c c' b o,tp=.slice (some ⟨g,0,none⟩) M.length c/\ ∀V k,w.grownBy V (some sb)->Blk V sb (.int .i64 k::tp:: .int .i64 u::(pv.map (fun i=>Value.int .i64 i)++tk.map Value.bool)) 416->(V.cell? ⟨g,q,none⟩=some (.slice (some ⟨b,o,none⟩) m c')/\g<V.heap.size)/\V.rangeAt b (o+j*3) [.bool t.neg,.string t.n,.string t.d]:=by
 obtain⟨g,c,v,A,c',e1,e2,e3,_,_,_,_⟩:=h.at hl;have ab:=h.row q v r e2 hl;rw[hm]at e3;subst e3;obtain⟨b,o,rfl,_,_⟩:=ab.num ht;refine⟨g,c,c',b,o,e1,fun V k hg hb=>?_⟩;have hV:=h.own hg hb h.plen h.tlen;obtain⟨g2,c2,v2,A2,ac,f1,f2,f3,f4,f5,f6,f7⟩:=hV.at hl;rw[e1]at f1;obtain rfl:g=g2:=by injection f1 with e3;injection e3 with e3;injection e3
 rw[e2]at f2
 cases f2;obtain⟨b3,o3,e4,_,h5⟩:=f7.num ht
 cases e4;exact⟨⟨f4,f6⟩,h5⟩
def Ks(w:World)(sb u:Nat)(l:List Value)(s:ElS)(e:Ending)(w':World):Prop:=∃(k:Int)(xv pv:Value) (ys:List Tr),e=.returned (.tuple #[xv,pv])/\SoI w w' sb l k xv (((List.range u).map (cE s u)).map trR) pv ys/\ys.length<=u/\((ys=[]/\k=0/\∀i,i<u->∃q,s.piv[i]? = some (some q))\/(ys≠[]/\∃i,i<u/\s.piv[i]? = some none))
def ou(s:ElS)(u j:Nat):((List.range (j+1)).map (cE s u)).map trR=((List.range j).map (cE s u)).map trR++[trR (cE s u j)]:=by
 rw[List.range_succ,N9,N9];rfl
def Kt{w}{N sb u n m:Nat}{tp}{pv:List Int}{tk:List Bool}{vs}{M:List (List Tr)}{s:ElS}(h:ElZ w N sb 0 (u:Int) tp pv tk vs M)(hM:M=trM s.rows)(hR:qN n m u s)(bx:∀(i:Nat)(q:Option Nat),s.piv[i]? = some q->pv[i]? = some (pvI q))(hu:u<m)(dk:u<=32)(hm:m<=1048576)(hn:n<=32)(hT:Tab w) :Calls prog 306 #[.pointer sb] w (Ks w sb u (tp:: .int .i64 (u:Int)::(pv.map (fun i=>Value.int .i64 i)++tk.map Value.bool)) s):=by
 have H:=MY h;have dr:=MY hR;have HT:=MY hT;have dn:=MY bx;obtain⟨l,hl⟩:=nm (tp:: .int .i64 (u:Int)::(pv.map (fun i=>Value.int .i64 i)++tk.map Value.bool));have HL:=MY hl;have q2:=(h.blk.at 2 _ rfl).1;have ql:=h.blk.lt;have dT:=h.plen;have dl:=MY h.blk.lt;have HP:Hid (∀i,i<u->∃q,s.piv[i]? = some q/\pv[i]? = some (pvI q)/\∀p,q=some p->p<n):=fun i hi=>by
  have:i<s.piv.length:=by rw[hR.len];exact hi
  exact⟨s.piv[i],Nx this,bx i _ (Nx this),fun p hp=>hR.lt _ (OG _) p hp⟩
 have HX:Hid (∀(i:Nat)(q:Option Nat) (p:Nat),s.piv[i]? = some q->q=some p->∃r t,M[p]? = some r/\r.length=m/\r[u]? = some t/\t=trR (cE s u i)):=fun i q p hq e=>by
  subst e;have hp:p<n:=hR.lt _ (Oc hq) p rfl;obtain⟨r,x,e1,e2,e3,_⟩:=hR.rows.num hp hu;refine⟨r.map trR,trR x,by rw[hM];exact oh e1,by rw[N6];exact(hR.rows.row r (Oc e1)).1,by rw[Ou,e2];rfl,?_⟩;unfold cE;rw[Oq,hq];show _=trR (at2 s.rows p u);rw[e3]
 have HF:Hid (∀p,p<n->∀f,f<u->∃r t,M[p]? = some r/\r.length=m/\r[f]? = some t/\∃x:Rt,x.ok/\t=trR x):=fun p hp f hf=>by
  obtain⟨r,x,e1,e2,_,e4⟩:=hR.rows.num hp (show f<m by omega);exact⟨r.map trR,trR x,by rw[hM];exact oh e1,by rw[N6];exact(hR.rows.row r (Oc e1)).1,by rw[Ou,e2];rfl,x,e4,rfl⟩
 have bi:Hid (∀W,Tab W->Calls prog 321 #[.int .i64 0] W (Ret W (.agg #[.bool ae.neg,.string (bs ae.n),.string (bs ae.d)]))):=fun W hW=>qT false W hW;have cu:Hid (∀W,Tab W->Calls prog 321 #[.int .i64 1] W (Ret W (.agg #[.bool aq.neg,.string (bs aq.n),.string (bs aq.d)]))):=fun W hW=>qT true W hW;rw[hl];have q3:=fun(i:Nat) x (hx:pv[i]? = some x)=>(h.pvAt hx).1;have cv:=MY q3;have S0:Hid (SoI w w sb l 0 (.slice none 0 0) [] (.slice none 0 0) []):=⟨by rw[<-hl];exact h.blk,World.grownBy.refl _ _,aa.none_ _ _ _ _,aa.none_ _ _ _ _,(fun g e=>by cases e),h.blk.lt⟩
 clear h hR hT bx hl q3 hM;go_enter func306,ntmps306;go_wp2_with fail;go_loopw [4,13] (fun v z W=>∃i:Nat,i<=u/\v=.int .i64 (-1)/\z=.int .i64 i/\w=W/\Hid (∀j,j<i->∃q,s.piv[j]? = some (some q))) (fun _ z _=>u-(intOf z).toNat)
 case atStart=>exact⟨0,Nu _,rfl,rfl,by first|rfl|trivial,fun j h=>absurd h (by omega)⟩
 case round=>
  obtain⟨i,hi,rfl,rfl,rfl,HI⟩:=hrel;by_cases bw:i<u
  case pos=>
   obtain⟨q,hq,an,ax⟩:=HP.out i bw;have p0:=cv.out i _ an;obtain⟨cD,cN⟩:=ix (k:=i) (n:=u);have dy:(i:Int)<32:=by omega
   cases q with
   |some p=>
    have t1:decide ((p:Int)<0)=false:=by simp
    have cs:Hid (∀j,j<i+1->∃q,s.piv[j]? = some (some q)):=fun j hj=>by
     by_cases bo:j<i
     ·exact HI.out j bo
     ·obtain rfl:j=i:=by omega
      exact⟨p,hq⟩
    simp only[pvI]at p0
    clear hq an ax
    go_wp2
    go_roundw
    case rel=>exact⟨i+1,by omega,rfl,by go_num,by first|rfl|trivial,cs.out⟩
    case measure=>simp[intOf];omega
   |none=>
    have ca:Hid (s.piv[i]? = some none):=hq
    simp only[pvI]at p0
    have ea:decide ((i:Int)<0)=false:=by simp
    clear hq an ax
    go_wp2_with fail
    clear p0
    obtain⟨ad,ag⟩:∃c:Nat->Int->List Tr->Prop,c=fun(j:Nat)(_:Int) (ys:List Tr)=>ys.length=j:=⟨_,rfl⟩
    have HC:=MY ag
    have C0:Hid (ad 0 0 []):=by show ad 0 0 [];rw[ag];simp
    have be:Hid (∀k ys,ad u k ys->ys.length<=u/\((ys=[]/\k=0/\∀i,i<u->∃q,s.piv[i]? = some (some q))\/(ys≠[]/\∃i,i<u/\s.piv[i]? = some none))):=fun k ys h=>by
     rw[ag]at h;exact⟨by omega,.inr ⟨fun e=>by rw[e]at h;simp at h;omega,i,bw,ca.out⟩⟩
    clear ag q2 ql
    go_loopw [2,3,29] (fun x2 x3 z W=>∃(j:Nat)(k:Int) (ys:List Tr),j<=u/\z=.int .i64 j/\Hid (SoI w W sb l k x2 (((List.range j).map (cE s u)).map trR) x3 ys)/\Hid (ad j k ys)) (fun _ _ z _=>u-(intOf z).toNat)
    case atStart=>exact⟨0,0,[],Nu _,rfl,S0.out,C0.out⟩
    case round=>
     obtain⟨j,k,ys,hj,rfl,S,C⟩:=hrel
     clear S0 C0
     obtain⟨X1,Y1,ex⟩:=S.x.slice
     obtain⟨X2,Y2,ep⟩:=S.p.slice
     simp only[N6,N7]at ex ep
     subst ex ep
     by_cases bv:j<u
     case neg=>
      obtain rfl:u=j:=by omega
      have HE:=MY (be.out k ys C.out)
      go_wp2
      go_ret2
      exact⟨k,_,_,ys,rfl,S.out,HE.1,HE.2⟩
     obtain⟨q,hq,an,ax⟩:=HP.out j bv
     have HB:=MY (by rw[<-HL.out]at S;exact S.blk:Blk wr sb (.int .i64 k::tp:: .int .i64 (u:Int)::(pv.map (fun i=>Value.int .i64 i)++tk.map Value.bool)) 416)
     have bd:=MY (H.own S.gr HB.out H.plen H.tlen)
     have p0:=(bd.pvAt an).1
     have q2:=(bd.blk.at 2 _ rfl).1
     have ql:=bd.blk.lt
     have bp:=MY (HT.by_sb H.blk S.gr)
     have ao:Hid (∀V k',w.grownBy V (some sb)->Blk V sb (.int .i64 k'::l) 416->V.cell? ⟨sb,3+j,none⟩=some (.int .i64 (pvI q))/\sb<V.heap.size):=fun V k' h1 h2=>by
      rw[<-HL.out]at h2;exact⟨((H.own h1 h2 H.plen H.tlen).pvAt an).1,h2.lt⟩
     obtain⟨cP,cR⟩:=ix (k:=j) (n:=u)
     have db:(j:Int)<32:=by omega
     cases q with
     |some p=>
      have t1:decide ((0:Int)<=(p:Int))=true:=by simp
      have t2:decide ((p:Int)<0)=false:=by simp
      simp only[pvI]at p0 ao
      obtain⟨r,t,e1,e2,e3,e4⟩:=HX.out j _ p hq rfl
      obtain⟨g,c,c',b,o,rfl,ar⟩:=qV H.out e1 e2 e3
      have HQ:=MY hq
      have cb:=MY (ax p rfl)
      have ba:=MY e4
      have aA:Hid (∀V k,w.grownBy V (some sb)->Blk V sb (.int .i64 k::l) 416->(fun w'=>w'.cell? ⟨sb,1,none⟩=some (.slice g M.length c)/\w'.cell? ⟨sb,2,none⟩=some (.int .i64 (u:Int))/\sb<w'.heap.size/\(w'.cell? ⟨g,p,none⟩=some (.slice (some ⟨b,o,none⟩) m c')/\g<w'.heap.size)/\w'.rangeAt b (o+u*3) [.bool t.neg,.string t.n,.string t.d]) V):=fun V k h1 h2=>by
       rw[<-HL.out]at h2;exact⟨(h2.at 1 _ rfl).1,(h2.at 2 _ rfl).1,h2.lt,ar V k h1 h2⟩
      have cw:=MY (aA.out wr k S.gr S.blk)
      have co:(0:Int)<=(p:Int):=by omega
      have cp:(p:Int)<(M.length:Int):=by have:=(NQ.1 e1).1;omega
      obtain⟨df,di⟩:=ix (k:=u) (n:=m)
      obtain⟨xb,al⟩:=nm wr.heap.size
      obtain⟨WB,ac⟩:=nm ((wr.alloc (.cells #[.bool t.neg,.string t.n,.string t.d] 37)).drew)
      have XB:Hid (Blk WB xb [.bool t.neg,.string t.n,.string t.d] 37):=by rw[<-ac,<-al];exact(Blk.new _ _ _).drew
      have SB:Hid (SoI w WB sb l k (.slice X1 j Y1) (((List.range j).map (cE s u)).map trR) (.slice X2 ys.length Y2) ys):=by rw[<-ac];exact S.below (Below.drew (ak wr _))
      have br:=MY (aA.out WB k SB.gr SB.blk)
      clear hq an ax ar e1 e2 e3 e4
      go_wp2_with fail
      refine aJ (S:=fun w'=>w'.cell? ⟨sb,1,none⟩=some (.slice g M.length c)/\w'.cell? ⟨sb,2,none⟩=some (.int .i64 (u:Int))/\sb<w'.heap.size/\(w'.cell? ⟨g,p,none⟩=some (.slice (some ⟨b,o,none⟩) m c')/\g<w'.heap.size)/\w'.rangeAt b (o+u*3) [.bool t.neg,.string t.n,.string t.d]) [0,1,2,3,4,5,6,7,8,9,10,11,12,13,1014,1015,16] (aA.out wr.drew k (aY S.gr (eh _ _)) S.blk.drew) (fun ab=>?_)
      repeat(first|(refine sR 37 (fun w' bg=>bg.2.2.2.2) ?_)|(refine sQ ?_)|(refine sS ?_))
      refine az fun K hK=>?_
      go_simp
      refine hG hK (by exact br.out) fun ab=>?_
      clear hK K
      refine az fun K hK=>?_
      refine oq ji (.tmp 40) (.tmp 54) rfl w.heap.size _ _ rfl SB.x xb 1 [.bool t.neg,.string t.n,.string t.d] 37 rfl XB.out rfl rfl (by simp;omega) SB.gr.size (fun v8 w8 ho hg hv=>?_)
      have S8:Hid (SoI w w8 sb l k v8 (((List.range (j+1)).map (cE s u)).map trR) (.slice X2 ys.length Y2) ys):=by
       have:=SB.appX (z:=t) (by rw[N9];exact ho) hg hv;rw[ou,<-ba.out];exact this
      clear ho hg hv ac al
      refine hG hK (by exact aA.out w8 k S8.gr S8.blk) fun ab=>?_
      clear hK K
      repeat refine ay ?_
      refine aj ?_
      clear ab
      have bh:Hid (ys.length=j):=by
       have:=C.out;rw[HC.out]at this;exact this
      have cn:ys.length<=32:=by have:=bh.out;omega
      have p0:=(ao.out w8 k S8.gr S8.blk).1
      have ql:=(ao.out w8 k S8.gr S8.blk).2
      have bl:=MY (HT.by_sb H.blk S8.gr)
      obtain⟨Z1,Z2,ez⟩:=S8.x.slice
      simp only[N6,N7]at ez
      have bo:((j:Int)==(i:Int))=false:=by
       have:j≠i:=fun e=>by subst e;have:=HQ.out;rw[ca.out]at this;cases this
       simp;omega
      obtain⟨r2,av,e1,e2,e3,xr,cq,cr⟩:=HF.out p cb.out i bw
      obtain⟨g2,ds,cf,b2,o2,cz,bc⟩:=qV H.out e1 e2 e3
      injection cz with bm dv cC
      injection bm with bm
      injection bm with bm
      subst bm cC
      have bk:Hid (∀V k,w.grownBy V (some sb)->Blk V sb (.int .i64 k::l) 416->(fun w'=>w'.cell? ⟨sb,1,none⟩=some (.slice g M.length c)/\w'.cell? ⟨sb,2,none⟩=some (.int .i64 (u:Int))/\sb<w'.heap.size/\(w'.cell? ⟨g,p,none⟩=some (.slice (some ⟨b2,o2,none⟩) m cf)/\g<w'.heap.size)/\w'.rangeAt b2 (o2+i*3) [.bool av.neg,.string av.n,.string av.d]) V):=fun V k h1 h2=>by
       rw[<-HL.out]at h2;exact⟨(h2.at 1 _ rfl).1,(h2.at 2 _ rfl).1,h2.lt,bc V k h1 h2⟩
      have co:(0:Int)<=(p:Int):=by omega
      have cp:(p:Int)<(M.length:Int):=by have:=(NQ.1 e1).1;omega
      obtain⟨cD,cN⟩:=ix (k:=i) (n:=m)
      have cd:=MY (And.intro cq cr)
      have cx:=MY (bi.out w8.drew bl.drew)
      subst ez
      clear e1 e2 e3 cq cr bc
      go_wp2_with fail
      refine aJ (S:=fun w'=>w'.cell? ⟨sb,1,none⟩=some (.slice g M.length c)/\w'.cell? ⟨sb,2,none⟩=some (.int .i64 (u:Int))/\sb<w'.heap.size/\(w'.cell? ⟨g,p,none⟩=some (.slice (some ⟨b2,o2,none⟩) m cf)/\g<w'.heap.size)/\w'.rangeAt b2 (o2+i*3) [.bool av.neg,.string av.n,.string av.d]) [0,1,2,3,5,6,7,8,9,10,11,12,13,14,1004,1015,1016,1017,18] (bk.out w8.drew k (aY S8.gr (eh _ _)) S8.blk.drew) (fun ab=>?_)
      repeat(first|(refine sR 37 (fun w' bg=>bg.2.2.2.2) ?_)|(refine sQ ?_)|(refine sS ?_))
      refine az fun K hK=>?_
      go_simp
      refine cx.mono ?_
      rintro e w3 ⟨rfl,ch⟩
      have S3:=MY (S8.below ((NB _ w8).drew.trans ch))
      have cc:=MY (HT.by_sb H.blk S3.gr)
      have bt:Hid (∃o3,Calls prog 327 #[.pointer sb,.agg #[.bool ae.neg,.string (bs ae.n),.string (bs ae.d)],.agg #[.bool av.neg,.string av.n,.string av.d]] w3 (kM w3 sb l 416 o3)):=by
       by_cases hk:k=0
       ·subst hk;have:=uB sb 0 (trR ae) av l 416 (subR ae xr) w3 S3.blk cc.out (.inr ⟨rfl,ae,xr,jy,cd.1,rfl,cd.2,rfl⟩);exact⟨_,this⟩
       ·exact⟨none,uB sb k (trR ae) av l 416 none w3 S3.blk cc.out (.inl ⟨hk,rfl⟩)⟩
      clear ch
      refine hG hK (by exact bk.out w3 k S3.gr S3.blk) fun ab=>?_
      clear hK K
      repeat(first|(refine sR 37 (fun w' bg=>bg.2.2.2.2) ?_)|(refine sQ ?_)|(refine sS ?_))
      refine az fun K hK=>?_
      go_simp
      obtain⟨o3,ci⟩:=bt.out
      refine ci.mono ?_
      rintro e w4 ⟨z,k4,rfl,cm,cl,_,_⟩
      have S4:=MY (S3.calc cm cl)
      obtain⟨xb,al⟩:=nm w4.heap.size
      obtain⟨WB,ac⟩:=nm (w4.alloc (.cells #[.bool z.neg,.string z.n,.string z.d] 37))
      have XB:Hid (Blk WB xb [.bool z.neg,.string z.n,.string z.d] 37):=by rw[<-ac,<-al];exact Blk.new _ _ _
      have SB:=MY (S4.below (ak w4 (.cells #[.bool z.neg,.string z.n,.string z.d] 37)))
      rw[ac]at SB
      clear ci cm cl
      refine hG hK (by exact bk.out w4 k4 S4.gr S4.blk) fun ab=>?_
      clear hK K
      refine az fun K hK=>?_
      go_simp
      refine hG hK (by exact bk.out WB k4 SB.gr SB.blk) fun ab=>?_
      clear hK K
      refine az fun K hK=>?_
      refine oq ji (.tmp 68) (.tmp 84) rfl w.heap.size _ _ rfl SB.p xb 1 [.bool z.neg,.string z.n,.string z.d] 37 rfl XB.out rfl rfl (by simp;omega) SB.gr.size (fun v8 w8 ho hg hv=>?_)
      have SP:=MY (SB.appP (z:=z) (by rw[N9];exact ho) hg hv)
      clear ho hg hv ac al
      refine hG hK (by exact bk.out w8 k4 SP.gr SP.blk) fun ab=>?_
      clear hK K
      repeat refine ay ?_
      refine aj ?_
      clear ab
      have C8:Hid (ad (j+1) k4 (ys++[z])):=by
       have:=C.out;rw[HC.out]at this;show ad _ _ _;rw[HC.out];show(ys++[z]).length=j+1;rw[Oe,this];rfl
      go_wp2_with fail
      refine⟨⟨j+1,k4,ys++[z],by omega,by go_num,SP.out,C8.out⟩,?_⟩
      simp[intOf];omega
     |none=>
      have t1:decide ((0:Int)<=(-1:Int))=false:=by decide
      simp only[pvI]at p0 ao
      have ba:Hid (ae=cE s u j):=by
       show _=_;unfold cE;rw[Oq,hq];rfl
      have HQ:=MY hq
      clear hq an ax
      by_cases bo:j=i
      ·have dd:((j:Int)==(i:Int))=true:=by simp;omega
       clear bo
       have bh:Hid (ys.length=j):=by
        have:=C.out;rw[HC.out]at this;exact this
       have cn:ys.length<=32:=by have:=bh.out;omega
       go_wp2_with fail
       refine(bi.out wr bp.out).mono ?_
       rintro e w2 ⟨rfl,bb⟩
       have S2:=MY (S.below bb)
       clear bb p0 q2 ql
       obtain⟨xb,al⟩:=nm w2.heap.size
       obtain⟨WB,ac⟩:=nm (w2.alloc (.cells #[.bool ae.neg,.string (bs ae.n),.string (bs ae.d)] 37))
       have XB:=MY (Blk.new w2 [.bool ae.neg,.string (bs ae.n),.string (bs ae.d)] 37)
       have SB:=MY (S2.below (ak w2 (.cells #[.bool ae.neg,.string (bs ae.n),.string (bs ae.d)] 37)))
       rw[ac]at XB SB
       rw[al]at XB
       go_wp2_with (at_builtin;refine ot ji rfl (.tmp 56) (.tmp 58) rfl w.heap.size _ _ rfl SB.x xb 1 [.bool ae.neg,.string (bs ae.n),.string (bs ae.d)] 37 rfl XB.out rfl rfl (by simp;omega) SB.gr.size (fun v8 w8 ho hg hv=>?_);have S8:=MY (SB.appX (z:=trR ae) (by rw[N9];exact ho) hg hv);clear ho hg hv;have p0:=(ao.out w8 k S8.gr S8.blk).1;have ql:=(ao.out w8 k S8.gr S8.blk).2)
       have S9:Hid (SoI w w8 sb l k v8 (((List.range (j+1)).map (cE s u)).map trR) (.slice X2 ys.length Y2) ys):=by
        rw[ou,<-ba.out];exact S8.out
       have bl:=MY (HT.by_sb H.blk S9.gr)
       obtain⟨Z1,Z2,ez⟩:=S9.x.slice
       simp only[N6,N7]at ez
       subst ez
       refine(cu.out w8 bl.out).mono ?_
       rintro e w9 ⟨rfl,bn⟩
       have bu:=MY (S9.below bn)
       clear bn p0 ql
       obtain⟨xb,al⟩:=nm w9.heap.size
       obtain⟨WB,ac⟩:=nm (w9.alloc (.cells #[.bool aq.neg,.string (bs aq.n),.string (bs aq.d)] 37))
       have XB:=MY (Blk.new w9 [.bool aq.neg,.string (bs aq.n),.string (bs aq.d)] 37)
       have SB:=MY (bu.below (ak w9 (.cells #[.bool aq.neg,.string (bs aq.n),.string (bs aq.d)] 37)))
       rw[ac]at XB SB
       rw[al]at XB
       go_wp2_with (at_builtin;refine ot ji rfl (.tmp 90) (.tmp 92) rfl w.heap.size _ _ rfl SB.p xb 1 [.bool aq.neg,.string (bs aq.n),.string (bs aq.d)] 37 rfl XB.out rfl rfl (by simp;omega) SB.gr.size (fun v8 w8 ho hg hv=>?_);have SP:=MY (SB.appP (z:=trR aq) (by rw[N9];exact ho) hg hv);clear ho hg hv)
       have C8:Hid (ad (j+1) k (ys++[trR aq])):=by
        have:=C.out;rw[HC.out]at this;show ad _ _ _;rw[HC.out];show(ys++[trR aq]).length=j+1;rw[Oe,this];rfl
       go_wp2_with fail
       refine⟨⟨j+1,k,ys++[trR aq],by omega,by go_num,SP.out,C8.out⟩,?_⟩
       simp[intOf];omega
      ·have dd:((j:Int)==(i:Int))=false:=by simp;omega
       clear bo
       have bh:Hid (ys.length=j):=by
        have:=C.out;rw[HC.out]at this;exact this
       have cn:ys.length<=32:=by have:=bh.out;omega
       go_wp2_with fail
       refine(bi.out wr bp.out).mono ?_
       rintro e w2 ⟨rfl,bb⟩
       have S2:=MY (S.below bb)
       clear bb p0 q2 ql
       obtain⟨xb,al⟩:=nm w2.heap.size
       obtain⟨WB,ac⟩:=nm (w2.alloc (.cells #[.bool ae.neg,.string (bs ae.n),.string (bs ae.d)] 37))
       have XB:=MY (Blk.new w2 [.bool ae.neg,.string (bs ae.n),.string (bs ae.d)] 37)
       have SB:=MY (S2.below (ak w2 (.cells #[.bool ae.neg,.string (bs ae.n),.string (bs ae.d)] 37)))
       rw[ac]at XB SB
       rw[al]at XB
       go_wp2_with (at_builtin;refine ot ji rfl (.tmp 56) (.tmp 58) rfl w.heap.size _ _ rfl SB.x xb 1 [.bool ae.neg,.string (bs ae.n),.string (bs ae.d)] 37 rfl XB.out rfl rfl (by simp;omega) SB.gr.size (fun v8 w8 ho hg hv=>?_);have S8:=MY (SB.appX (z:=trR ae) (by rw[N9];exact ho) hg hv);clear ho hg hv;have p0:=(ao.out w8 k S8.gr S8.blk).1;have ql:=(ao.out w8 k S8.gr S8.blk).2)
       have S9:Hid (SoI w w8 sb l k v8 (((List.range (j+1)).map (cE s u)).map trR) (.slice X2 ys.length Y2) ys):=by
        rw[ou,<-ba.out];exact S8.out
       have bl:=MY (HT.by_sb H.blk S9.gr)
       obtain⟨Z1,Z2,ez⟩:=S9.x.slice
       simp only[N6,N7]at ez
       subst ez
       refine(bi.out w8 bl.out).mono ?_
       rintro e w9 ⟨rfl,bn⟩
       have bu:=MY (S9.below bn)
       clear bn p0 ql
       obtain⟨xb,al⟩:=nm w9.heap.size
       obtain⟨WB,ac⟩:=nm (w9.alloc (.cells #[.bool ae.neg,.string (bs ae.n),.string (bs ae.d)] 37))
       have XB:=MY (Blk.new w9 [.bool ae.neg,.string (bs ae.n),.string (bs ae.d)] 37)
       have SB:=MY (bu.below (ak w9 (.cells #[.bool ae.neg,.string (bs ae.n),.string (bs ae.d)] 37)))
       rw[ac]at XB SB
       rw[al]at XB
       go_wp2_with (at_builtin;refine ot ji rfl (.tmp 97) (.tmp 99) rfl w.heap.size _ _ rfl SB.p xb 1 [.bool ae.neg,.string (bs ae.n),.string (bs ae.d)] 37 rfl XB.out rfl rfl (by simp;omega) SB.gr.size (fun v8 w8 ho hg hv=>?_);have SP:=MY (SB.appP (z:=trR ae) (by rw[N9];exact ho) hg hv);clear ho hg hv)
       have C8:Hid (ad (j+1) k (ys++[trR ae])):=by
        have:=C.out;rw[HC.out]at this;show ad _ _ _;rw[HC.out];show(ys++[trR ae]).length=j+1;rw[Oe,this];rfl
       go_wp2_with fail
       refine⟨⟨j+1,k,ys++[trR ae],by omega,by go_num,SP.out,C8.out⟩,?_⟩
       simp[intOf];omega
  obtain rfl:u=i:=by omega
  go_wp2_with fail;obtain⟨ad,ag⟩:∃c:Nat->Int->List Tr->Prop,c=fun(_:Nat)(k:Int) (ys:List Tr)=>ys=[]/\k=0:=⟨_,rfl⟩
  have HC:=MY ag;have C0:Hid (ad 0 0 []):=by show ad 0 0 [];rw[ag];simp
  have be:Hid (∀k ys,ad u k ys->ys.length<=u/\((ys=[]/\k=0/\∀i,i<u->∃q,s.piv[i]? = some (some q))\/(ys≠[]/\∃i,i<u/\s.piv[i]? = some none))):=fun k ys h=>by
   rw[ag]at h;exact⟨by rw[h.1];simp,.inl ⟨h.1,h.2,HI.out⟩⟩
  clear ag q2 ql;go_loopw [2,3,29] (fun x2 x3 z W=>∃(j:Nat)(k:Int) (ys:List Tr),j<=u/\z=.int .i64 j/\Hid (SoI w W sb l k x2 (((List.range j).map (cE s u)).map trR) x3 ys)/\Hid (ad j k ys)) (fun _ _ z _=>u-(intOf z).toNat)
  case atStart=>exact⟨0,0,[],Nu _,rfl,S0.out,C0.out⟩
  case round=>
   obtain⟨j,k,ys,hj,rfl,S,C⟩:=hrel;clear S0 C0;obtain⟨X1,Y1,ex⟩:=S.x.slice;obtain⟨X2,Y2,ep⟩:=S.p.slice;simp only[N6,N7]at ex ep;subst ex ep;by_cases bv:j<u
   case neg=>
    obtain rfl:u=j:=by omega
    have HE:=MY (be.out k ys C.out);go_wp2;go_ret2;exact⟨k,_,_,ys,rfl,S.out,HE.1,HE.2⟩
   obtain⟨q,hq,an,ax⟩:=HP.out j bv;have HB:=MY (by rw[<-HL.out]at S;exact S.blk:Blk wr sb (.int .i64 k::tp:: .int .i64 (u:Int)::(pv.map (fun i=>Value.int .i64 i)++tk.map Value.bool)) 416);have bd:=MY (H.own S.gr HB.out H.plen H.tlen);have p0:=(bd.pvAt an).1;have q2:=(bd.blk.at 2 _ rfl).1;have ql:=bd.blk.lt;have bp:=MY (HT.by_sb H.blk S.gr);have ao:Hid (∀V k',w.grownBy V (some sb)->Blk V sb (.int .i64 k'::l) 416->V.cell? ⟨sb,3+j,none⟩=some (.int .i64 (pvI q))/\sb<V.heap.size):=fun V k' h1 h2=>by
    rw[<-HL.out]at h2;exact⟨((H.own h1 h2 H.plen H.tlen).pvAt an).1,h2.lt⟩
   obtain⟨cP,cR⟩:=ix (k:=j) (n:=u);have db:(j:Int)<32:=by omega
   cases q with
   |some p=>
    have t1:decide ((0:Int)<=(p:Int))=true:=by simp
    have t2:decide ((p:Int)<0)=false:=by simp
    simp only[pvI]at p0 ao
    obtain⟨r,t,e1,e2,e3,e4⟩:=HX.out j _ p hq rfl
    obtain⟨g,c,c',b,o,rfl,ar⟩:=qV H.out e1 e2 e3
    have HQ:=MY hq
    have cb:=MY (ax p rfl)
    have ba:=MY e4
    have aA:Hid (∀V k,w.grownBy V (some sb)->Blk V sb (.int .i64 k::l) 416->(fun w'=>w'.cell? ⟨sb,1,none⟩=some (.slice g M.length c)/\w'.cell? ⟨sb,2,none⟩=some (.int .i64 (u:Int))/\sb<w'.heap.size/\(w'.cell? ⟨g,p,none⟩=some (.slice (some ⟨b,o,none⟩) m c')/\g<w'.heap.size)/\w'.rangeAt b (o+u*3) [.bool t.neg,.string t.n,.string t.d]) V):=fun V k h1 h2=>by
     rw[<-HL.out]at h2;exact⟨(h2.at 1 _ rfl).1,(h2.at 2 _ rfl).1,h2.lt,ar V k h1 h2⟩
    have cw:=MY (aA.out wr k S.gr S.blk)
    have co:(0:Int)<=(p:Int):=by omega
    have cp:(p:Int)<(M.length:Int):=by have:=(NQ.1 e1).1;omega
    obtain⟨df,di⟩:=ix (k:=u) (n:=m)
    obtain⟨xb,al⟩:=nm wr.heap.size
    obtain⟨WB,ac⟩:=nm ((wr.alloc (.cells #[.bool t.neg,.string t.n,.string t.d] 37)).drew)
    have XB:Hid (Blk WB xb [.bool t.neg,.string t.n,.string t.d] 37):=by rw[<-ac,<-al];exact(Blk.new _ _ _).drew
    have SB:Hid (SoI w WB sb l k (.slice X1 j Y1) (((List.range j).map (cE s u)).map trR) (.slice X2 ys.length Y2) ys):=by rw[<-ac];exact S.below (Below.drew (ak wr _))
    have br:=MY (aA.out WB k SB.gr SB.blk)
    clear hq an ax ar e1 e2 e3 e4
    go_wp2_with fail
    refine aJ (S:=fun w'=>w'.cell? ⟨sb,1,none⟩=some (.slice g M.length c)/\w'.cell? ⟨sb,2,none⟩=some (.int .i64 (u:Int))/\sb<w'.heap.size/\(w'.cell? ⟨g,p,none⟩=some (.slice (some ⟨b,o,none⟩) m c')/\g<w'.heap.size)/\w'.rangeAt b (o+u*3) [.bool t.neg,.string t.n,.string t.d]) [0,1,2,3,4,5,6,7,8,9,10,11,12,13,1014,1015,16] (aA.out wr.drew k (aY S.gr (eh _ _)) S.blk.drew) (fun ab=>?_)
    repeat(first|(refine sR 37 (fun w' bg=>bg.2.2.2.2) ?_)|(refine sQ ?_)|(refine sS ?_))
    refine az fun K hK=>?_
    go_simp
    refine hG hK (by exact br.out) fun ab=>?_
    clear hK K
    refine az fun K hK=>?_
    refine oq ji (.tmp 40) (.tmp 54) rfl w.heap.size _ _ rfl SB.x xb 1 [.bool t.neg,.string t.n,.string t.d] 37 rfl XB.out rfl rfl (by simp;omega) SB.gr.size (fun v8 w8 ho hg hv=>?_)
    have S8:Hid (SoI w w8 sb l k v8 (((List.range (j+1)).map (cE s u)).map trR) (.slice X2 ys.length Y2) ys):=by
     have:=SB.appX (z:=t) (by rw[N9];exact ho) hg hv;rw[ou,<-ba.out];exact this
    clear ho hg hv ac al
    refine hG hK (by exact aA.out w8 k S8.gr S8.blk) fun ab=>?_
    clear hK K
    repeat refine ay ?_
    refine aj ?_
    clear ab
    have C8:Hid (ad (j+1) k ys):=by
     have:=C.out;rw[HC.out]at this;show ad _ _ _;rw[HC.out];exact this
    go_wp2_with fail
    refine⟨⟨j+1,k,ys,by omega,by go_num,S8.out,C8.out⟩,?_⟩
    simp[intOf];omega
   |none=>
    have t1:decide ((0:Int)<=(-1:Int))=false:=by decide
    simp only[pvI]at p0 ao
    have ba:Hid (ae=cE s u j):=by
     show _=_;unfold cE;rw[Oq,hq];rfl
    have HQ:=MY hq
    clear hq an ax
    go_wp2_with fail
    refine(bi.out wr bp.out).mono ?_
    rintro e w2 ⟨rfl,bb⟩
    have S2:=MY (S.below bb)
    clear bb p0 q2 ql
    obtain⟨xb,al⟩:=nm w2.heap.size
    obtain⟨WB,ac⟩:=nm (w2.alloc (.cells #[.bool ae.neg,.string (bs ae.n),.string (bs ae.d)] 37))
    have XB:=MY (Blk.new w2 [.bool ae.neg,.string (bs ae.n),.string (bs ae.d)] 37)
    have SB:=MY (S2.below (ak w2 (.cells #[.bool ae.neg,.string (bs ae.n),.string (bs ae.d)] 37)))
    rw[ac]at XB SB
    rw[al]at XB
    go_wp2_with (at_builtin;refine ot ji rfl (.tmp 56) (.tmp 58) rfl w.heap.size _ _ rfl SB.x xb 1 [.bool ae.neg,.string (bs ae.n),.string (bs ae.d)] 37 rfl XB.out rfl rfl (by simp;omega) SB.gr.size (fun v8 w8 ho hg hv=>?_);have S8:=MY (SB.appX (z:=trR ae) (by rw[N9];exact ho) hg hv);clear ho hg hv)
    have S9:Hid (SoI w w8 sb l k v8 (((List.range (j+1)).map (cE s u)).map trR) (.slice X2 ys.length Y2) ys):=by
     rw[ou,<-ba.out];exact S8.out
    have C8:Hid (ad (j+1) k ys):=by
     have:=C.out;rw[HC.out]at this;show ad _ _ _;rw[HC.out];exact this
    go_wp2_with fail
    refine⟨⟨j+1,k,ys,by omega,by go_num,S9.out,C8.out⟩,?_⟩
    simp[intOf];omega
def Am(x:Rt)(L):dI (x::L)=Value.bool x.neg::Value.string (bs x.n)::Value.string (bs x.d)::dI L:=rfl
def An:∀(L:List Rt)(i:Nat) (c:Rt),i<L.length->(((dI L).set (i*3) (.bool c.neg)).set (i*3+1) (.string (bs c.n))).set (i*3+2) (.string (bs c.d))=dI (L.set i c)
 |[],i,c,h=>by simp at h
 |x::L,0,c,h=>rfl
 |x::L,i+1,c,h=>by
  rw[Am,OC,Am,<-An L i c (by simpa using h),show(i+1)*3=i*3+1+1+1 by omega,show i*3+1+1+1+1=(i*3+1)+1+1+1 by omega,show i*3+1+1+1+2=(i*3+2)+1+1+1 by omega];simp only[OC]
def RowC.sub{w}{n c:Nat}{A}{b:List Rt}(h:RowC w 3 (.slice A n c) (b.map aS)){i:Nat}{x}(hx:b[i]? = some x):∃bb o,A=some ⟨bb,o,none⟩/\i<c/\∀c',1<=c'->RowC w 3 (.slice (some ⟨bb,o+i*3,none⟩) 1 c') [aS x]:=by
 have hi:=(NQ.1 hx).1;obtain⟨A',c2,e,hc,H⟩:=h;rw[N6]at e hc;injection e with e1 e2 e3;subst e1 e3;obtain⟨bb,o,rfl,hb,hr⟩:=H i (aS x) (by rw[Ou,hx];rfl);refine⟨bb,o,rfl,by omega,fun c' ab=>⟨_,c',rfl,ab,fun j cs hj=>⟨bb,o+i*3,rfl,hb,?_⟩⟩⟩
 cases j with
 |zero=>cases hj;simpa using hr
 |succ j=>simp at hj
def Aq(l:List Rt):(l.map trR).map trC=l.map aS:=by rw[List.map_map];rfl
def gn(n i:Nat):List Rt:=(List.range n).map fun j=>if j=i then aq else ae
def Ku(n i:Nat):(List.replicate n ae).set i aq=gn n i:=by
 apply List.ext_getElem?;intro k;unfold gn;by_cases hk:k<n
 ·by_cases e:k=i
  ·subst e;rw[On (by simpa using hk),Ou,List.getElem?_range hk];simp
  ·rw[Oo (by omega),List.getElem?_replicate,if_pos hk,Ou,List.getElem?_range hk];simp[e]
 ·rw[OJ (by simp;omega),OJ (by simp;omega)]
def Kv{a:List (List Rt)}{b}{i:Nat}{r}{x}(hr:a[i]? = some r)(hx:b[i]? = some x):(beginR a b)[i]? = some (r++x::gn a.length i):=by
 unfold beginR;rw[Ou,qR hr];show some _=_;simp only;rw[Oq,hx];rfl
def At{R:List (List Rt)}{i:Nat}{r}(h:R[i]? = some r):trM (R.take (i+1))=trM (R.take i)++[r.map trR]:=by
 unfold trM;rw[Ox,h,N9];rfl
structure iF(w W:World)(sb n:Nat)(tp:Value)(pv:List Int)(vs:List Value)(R:List (List Rt))(i:Nat):Prop where
 el:ElZ W w.heap.size sb 0 (n:Int) tp pv (List.replicate 32 false) vs (trM (R.take i))
 bl:eB w W
 lo:w.heap.size<=sb
section
variable {w W W':World} {sb n i:Nat} {tp tp':Value} {pv:List Int} {vs:List Value} {R:List (List Rt)}
def iF.below(h:iF w W sb n tp pv vs R i)(hb:eB W W'):iF w W' sb n tp pv vs R i:=⟨h.el.below hb,h.bl.trans (hb.mono h.bl.size),h.lo⟩
def iF.next(h:iF w W sb n tp pv vs R i){r}(hr:R[i]? = some r){v}(hv:aa W w.heap.size 37 3 v (r.map aS))(ho:aa W' w.heap.size 241 1 tp' ((vs.map fun v=>[v])++[[v]]))(hg:W.grownBy W' tp.ownBlock):iF w (W'.setCell ⟨sb,1,none⟩ tp') sb n tp' pv (vs++[v]) R (i+1):=by
 have hi:=(NQ.1 hr).1;have hb:Blk W' sb (.int .i64 0::tp:: .int .i64 (n:Int)::(pv.map (fun i=>Value.int .i64 i)++(List.replicate 32 false).map Value.bool)) 416:=h.el.blk.ownG h.el.top (by decide) hg;refine⟨⟨hb.set 1 tp',?_,?_,?_,h.el.plen,h.el.tlen⟩,?_,h.lo⟩
 ·rw[N9];exact ho.set hb (by decide) _
 ·rw[At hr,Oe,Oe,h.el.vlen];rfl
 ·intro j u l h1 h2;rw[At hr]at h2;have hl:=h.el.vlen;by_cases hj:j<vs.length
  ·rw[N4 hj]at h1;rw[N4 (by omega)]at h2;exact((h.el.row j u l h1 h2).ownG h.el.top (by decide) hg).set hb (by decide) _
  ·have ab:=(NQ.1 h1).1;rw[Oe,OP]at ab;obtain rfl:j=vs.length:=by omega
   rw[N5 (No _),Nat.sub_self]at h1;rw[N5 (by omega),hl,Nat.sub_self]at h2
   cases h1;cases h2;rw[Aq];exact(hv.ownG h.el.top (by decide) hg).set hb (by decide) _
 ·exact(h.bl.grown hg h.bl.size (fun k e=>h.el.top.ge e)).setCell (p:=⟨sb,1,none⟩) h.lo _
end
def Kw(w:World)(n:Nat)(R:List (List Rt))(e:Ending)(w':World):Prop:=∃sb tp pv vs,e=.returned (.pointer (some ⟨sb,0,none⟩))/\iF w w' sb n tp pv vs R n
def Kx{w}{n:Nat}{av bv}{M:List bQ}{b}(h:fS w n av bv M b)(hT:Tab w):Calls prog 300 #[av,bv] w (Kw w n (beginR (M.map (·.l)) b)):=by
 have hn:=h.mlen;have cd:=h.blen;have ea:=h.small;have cC:=MY (Aj h);have dT:Hid (∀W,eB w W->Tab W):=fun W hW=>hT.below hW;have cq:Hid (∀W,eB w W->Calls prog 321 #[.int .i64 0] W (Ret W (.agg #[.bool ae.neg,.string (bs ae.n),.string (bs ae.d)]))):=fun W hW=>qT false W (hT.below hW);have cr:Hid (∀W,eB w W->Calls prog 321 #[.int .i64 1] W (Ret W (.agg #[.bool aq.neg,.string (bs aq.n),.string (bs aq.d)]))):=fun W hW=>qT true W (hT.below hW);obtain⟨A,c,ev⟩:=h.mat.top.len;obtain⟨Ab,cb,eb⟩:=h.rhs.len;rw[N6,hn]at ev;rw[N6,cd]at eb;subst ev eb;have H:=MY h;have bu:=MY hn;have co:=MY cd;obtain⟨R,hR⟩:=nm (beginR (M.map (·.l)) b);have cs:Hid (∀i r x,M[i]? = some r->b[i]? = some x->R[i]? = some (r.l++x::gn n i)):=fun i r x h1 h2=>by
  rw[<-hR];have:=Kv (a:=M.map (·.l)) (b:=b) (i:=i) (r:=r.l) (x:=x) (by rw[Ou,h1];rfl) h2;rw[N6,hn]at this;exact this
 rw[hR];go_enter func300,ntmps300;go_wp2_with fail;refine cC.mono ?_;rintro e w1 ⟨rfl,bc⟩;obtain⟨sb,cm⟩:=nm w1.heap.size;obtain⟨W2,bw⟩:=nm (w1.alloc (.cells (Tryz.zeroCells416.setIfInBounds 2 (.int .i64 (n:Int))) 416));have I2:Hid (iF w W2 sb n (.slice none 0 0) (List.replicate 32 0) [] R 0):=by
  have e:=Blk.new w1 (.int .i64 0:: .slice none 0 0:: .int .i64 (n:Int)::((List.replicate 32 (0:Int)).map (fun i=>Value.int .i64 i)++(List.replicate 32 false).map Value.bool)) 416;have e2:(.int .i64 0:: .slice none 0 0:: .int .i64 (n:Int)::((List.replicate 32 (0:Int)).map (fun i=>Value.int .i64 i)++(List.replicate 32 false).map Value.bool):List Value).toArray=Tryz.zeroCells416.setIfInBounds 2 (.int .i64 (n:Int)):=by kernel_rfl
  rw[e2,bw,cm]at e;exact⟨⟨e,aa.none_ _ _ _ _,rfl,fun i v l h1 h2=>(by simp at h1),rfl,rfl⟩,by rw[<-bw];exact bc.alloc bc.size _,by rw[<-cm];exact bc.size⟩
 go_wp2_with fail;go_loopw [16] (fun z W=>∃(i:Nat)(tp:Value) (pv:List Int) (vs:List Value),i<=n/\z=.int .i64 i/\Hid (iF w W sb n tp pv vs R i)) (fun z _=>n-(intOf z).toNat)
 case atStart=>exact⟨0,_,_,_,Nu _,rfl,I2.out⟩
 case round=>
  obtain⟨i,tp,pv,vs,hi,rfl,I⟩:=hrel;rename World=>W0;by_cases be:i<n
  case neg=>
   obtain rfl:n=i:=by omega
   go_wp2;go_ret;exact⟨sb,tp,pv,vs,rfl,I.out⟩
  obtain⟨r,hr⟩:=gx (l:=M) (i:=i) (by rw[bu.out];exact be);obtain⟨x,hx⟩:=gx (l:=b) (i:=i) (by rw[co.out];exact be);obtain⟨ab,ao,ac,A',c',e,a0,al,er⟩:=H.mat.at I.bl hr;rw[bu.out]at e
  cases e;have cl:=(H.row r (Oc hr)).1;rw[cl]at a0 er;obtain⟨bb,bo,rfl,ef,bt⟩:=H.rhs.sub hx;have bk:=MY bt;have cp:=MY er;have cu:=MY cl;have cx:=MY (cs.out i r x hr hx);have cz:=MY (H.mat.rows r (Oc hr));obtain⟨l0,df,ch⟩:=tK n (by omega) W0;obtain⟨g,hg⟩:=nm W0.heap.size;rw[hg]at ch;obtain⟨W3,bp⟩:=nm (W0.alloc (.cells l0.toArray 37));have cN:Hid (b9 W3 g n (List.replicate 0 ae)):=by rw[<-bp,<-hg];exact b9.new (Blk.new _ _ _) df
  have cn:Hid (Below g W0 W3):=by rw[<-bp,<-hg];exact ak _ _
  have IL:Hid (∀V,Below g W0 V->iF w V sb n tp pv vs R i):=fun V hV=>I.below (by rwa[<-hg]at hV);have dy:Hid (w.heap.size<=g):=by rw[<-hg];exact I.bl.size
  have dv:Hid (sb<g):=by rw[<-hg];exact I.el.blk.lt
  obtain⟨ed,ee⟩:=ix (k:=i) (n:=n);have em:(0:Int)<=(n:Int):=by omega
  rw[bp]at ch;go_wp2_with fail;go_loopw [26] (fun z W=>∃j:Nat,j<=n/\z=.int .i64 j/\Hid (b9 W g n (List.replicate j ae))/\Hid (Below g W0 W)) (fun z _=>n-(intOf z).toNat)
  case atStart=>exact⟨0,Nu _,rfl,cN.out,cn.out⟩
  case round=>
   obtain⟨j,hj,rfl,RB,GB⟩:=hrel;have I:=MY (IL.out wr GB.out);by_cases bd:j<n
   case pos=>
    have HC:=MY (cq.out wr I.bl);have dd:g<wr.heap.size:=by obtain⟨_,l,h,_⟩:=RB.out;exact h.lt
    obtain⟨eg,ei⟩:=ix (k:=j) (n:=n);go_wp2_with fail;refine HC.mono ?_;rintro e w2 ⟨rfl,ax⟩;have ba:=MY (RB.below ax);have bg:Hid (Below g W0 w2):=GB.trans (ax.mono (NS dd));obtain⟨v0,c0,f0,eo⟩:=ba.cells bd 0 (by omega);obtain⟨v1,c1,f1,_⟩:=ba.cells bd 1 (by omega);obtain⟨v2,c2,f2,_⟩:=ba.cells bd 2 (by omega);rw[Na]at c0 f0;obtain⟨W4,ar⟩:=nm (((w2.setCell ⟨g,j*3,none⟩ (.bool ae.neg)).setCell ⟨g,j*3+1,none⟩ (.string (bs ae.n))).setCell ⟨g,j*3+2,none⟩ (.string (bs ae.d)));have cP:Hid (b9 W4 g n (List.replicate (j+1) ae)):=by
     have:=ba.put (by simpa using bd) ae;rw[List.length_replicate,ar]at this;rw[List.replicate_succ'];exact this
    have bh:Hid (Below g W0 W4):=by rw[<-ar];exact((bg.setCell (p:=⟨g,_,none⟩) (No _) _).setCell (p:=⟨g,_,none⟩) (No _) _).setCell (p:=⟨g,_,none⟩) (No _) _
    go_wp2_with fail;refine⟨⟨j+1,by omega,by go_num,cP.out,bh.out⟩,?_⟩;simp[intOf];omega
   obtain rfl:n=j:=by omega
   have K:=MY (RB.done (by simp));have HC:=MY (cr.out wr I.bl);go_wp2_with fail;refine HC.mono ?_;rintro e w2 ⟨rfl,ax⟩;have K2:=MY (K.below ax K.lt);have bg:Hid (Below g W0 w2):=GB.trans (ax.mono (NS K.lt));have br:(List.replicate n ae)[i]? = some ae:=by rw[List.getElem?_replicate,if_pos be]
   obtain⟨c0,f0⟩:=K2.at (i*3) (.bool ae.neg) (qB br (u:=0) (by omega));obtain⟨c1,f1⟩:=K2.at (i*3+1) (.string (bs ae.n)) (qB br (u:=1) (by omega));obtain⟨c2,f2⟩:=K2.at (i*3+2) (.string (bs ae.d)) (qB br (u:=2) (by omega));have kl:=K2.lt;obtain⟨W4,ar⟩:=nm (((w2.setCell ⟨g,i*3,none⟩ (.bool aq.neg)).setCell ⟨g,i*3+1,none⟩ (.string (bs aq.n))).setCell ⟨g,i*3+2,none⟩ (.string (bs aq.d)));have K4:Hid (Blk W4 g (dI (gn n i)) 37):=by
    have:=((K2.set (i*3) (.bool aq.neg)).set (i*3+1) (.string (bs aq.n))).set (i*3+2) (.string (bs aq.d));rw[An _ _ _ (by simpa using be),Ku,ar]at this;exact this
   have bh:Hid (Below g W0 W4):=by rw[<-ar];exact((bg.setCell (p:=⟨g,_,none⟩) (No _) _).setCell (p:=⟨g,_,none⟩) (No _) _).setCell (p:=⟨g,_,none⟩) (No _) _
   have I4:=MY (IL.out W4 bh.out);have s0:=(I4.el.blk.at 1 _ rfl).1;have sl:=I4.el.blk.lt;have en:IntKind.i64.wrap ((i:Int)+1)=(i:Int)+1:=IntWalk.i64_in ((i:Int)+1) ⟨by omega,by omega⟩;have bc:(i:Int)<=(i:Int)+1:=by omega
   have cR:(i:Int)+1<=(cb:Int):=by omega
   have ec:¬(cb=i):=by omega
   obtain⟨q,hq⟩:=nm W4.heap.size;obtain⟨W5,bx⟩:=nm ((W4.alloc (.cells #[.slice A' n c',.slice (some ⟨bb,bo+i*3,none⟩) 1 (cb-i),.slice (some ⟨g,0,none⟩) n n] 241)).drew);have K5:Blk W5 q [.slice A' n c',.slice (some ⟨bb,bo+i*3,none⟩) 1 (cb-i),.slice g n n] 241:=by rw[<-bx,<-hq];exact(Blk.new _ _ _).drew
   have aA:eB W4 W5:=by rw[<-bx];exact Below.drew (ak _ _)
   have I5:=MY (I4.below aA);have bi:Hid (Calls prog 322 #[.slice q 3 3] W5 (tH W5 37 3 ((r.l++x::gn n i).map aS))):=by
    have cf:(gn n i).length=n:=by simp[gn]
    have:=Hy (.slice q 3 3) [(.slice A' n c',r.l.map aS),(.slice (some ⟨bb,bo+i*3,none⟩) 1 (cb-i),[aS x]),(.slice g n n,(gn n i).map aS)] W5 ⟨RowC.of_blk K5 [[.slice A' n c'],[.slice (some ⟨bb,bo+i*3,none⟩) 1 (cb-i)],[.slice g n n]] rfl (by simp) rfl 3 (No _),?_,?_,?_,?_,by simp⟩
    ·have e:(List.flatMap (fun x=>x.2) [(Value.slice A' n c',r.l.map aS),(.slice (some ⟨bb,bo+i*3,none⟩) 1 (cb-i),[aS x]),(.slice g n n,(gn n i).map aS)])=(r.l++x::gn n i).map aS:=by simp
     rw[e]at this;exact this
    ·intro y hy;simp only[Og,Oh,or_false]at hy;rcases hy with rfl|rfl|rfl
     ·have:=cz.below I5.bl;rw[cp.out]at this;exact this
     ·exact(bk.out (cb-i) (by omega)).below I5.bl
     ·exact tQ (K4.below aA K4.lt) cf n (No _)
    ·intro y hy z hz;simp only[Og,Oh,or_false]at hy;rcases hy with rfl|rfl|rfl
     ·obtain⟨u,_,rfl⟩:=OE.1 hz;rfl
     ·rw[Oi.1 hz];rfl
     ·obtain⟨u,_,rfl⟩:=OE.1 hz;rfl
    ·intro y hy z hz t ht;simp only[Og,Oh,or_false]at hy;have an:∀u:Rt,∀t∈aS u,t.oneCell'=true:=fun u t ht=>by simp[aS]at ht;rcases ht with rfl|rfl|rfl <;> rfl
     rcases hy with rfl|rfl|rfl
     ·obtain⟨u,_,rfl⟩:=OE.1 hz;exact an u t ht
     ·rw[Oi.1 hz]at ht;exact an x t ht
     ·obtain⟨u,_,rfl⟩:=OE.1 hz;exact an u t ht
    ·intro y hy;simp only[Og,Oh,or_false]at hy;rcases hy with rfl|rfl|rfl
     ·simp[cu.out];omega
     ·simp
     ·simp[cf];omega
   have s5:=(I5.el.blk.at 1 _ rfl).1;have dl:=I5.el.blk.lt;go_wp2_with fail;refine pF (S:=fun w'=>w'.cell? ⟨sb,1,none⟩=some tp/\sb<w'.heap.size) (Z:=fun _=>True) 18 [0,1,2,3,4,5,6,7,8,9,10,11,1012,1013,1014,1015,516,17,1018] (by kernel_rfl) (by kernel_rfl) ⟨s0,sl⟩ trivial (fun ad bm=>?_);repeat(first|(refine jD (v:=?_) rfl rfl rfl ?_ ?_;rotate_left;(· intro w ag;(try dsimp only at ag);go_simp;try(with_reducible rfl));try simp only[PT])|(refine jC (v:=?_) rfl rfl rfl rfl ?_ ?_;rotate_left;(· intro w ag;(try dsimp only at ag);go_simp;try(with_reducible rfl));try simp only[PT]))
   refine fZ rfl rfl rfl rfl rfl (fun K hK=>?_);go_simp;refine hK.out _ _ ⟨⟨s5,dl⟩,trivial⟩ (fun ad=>?_);try simp only[PT]
   refine fZ rfl rfl rfl rfl rfl (fun K hK=>?_);go_simp;refine bi.mono ?_;rintro e w6 ⟨db,v6,rfl,ci⟩;obtain⟨Av,cv,ev⟩:=ci.slice;obtain⟨nv,di⟩:=nm (((r.l++x::gn n i).map aS).length);rw[di]at ev;subst ev;have I6:=MY (I5.below db);have O6:=MY (ci.less (Nv I5.bl.size (No _)));have s6:=(I6.el.blk.at 1 _ rfl).1;have dn:=I6.el.blk.lt;refine hK.out _ _ ⟨⟨s6,dn⟩,trivial⟩ (fun ad=>?_);try simp only[PT]
   obtain⟨q,hq⟩:=nm w6.heap.size;obtain⟨W7,ca⟩:=nm (w6.alloc (.cells #[.slice Av nv cv] 241));have X7:Hid (Blk W7 q [.slice Av nv cv] 241):=by rw[<-ca,<-hq];exact Blk.new _ _ _
   have cc:eB w6 W7:=by rw[<-ca];exact ak _ _
   have I7:=MY (I6.below cc);have O7:=MY (O6.below cc (No _));have s7:=(I7.el.blk.at 1 _ rfl).1;have dr:=I7.el.blk.lt;have cD:Hid ((vs.map fun v=>[v]).length<=16777216):=by
    have:=I7.el.vlen;rw[qP,Nz]at this;show _<=_;rw[N6];omega
   refine fZ rfl rfl rfl rfl rfl (fun K hK=>?_);go_simp;refine hK.out _ _ ⟨⟨s7,dr⟩,trivial⟩ (fun ad=>?_);try simp only[PT]
   refine fZ rfl rfl rfl rfl rfl (fun K hK=>?_);refine oq qz (.tmp 42) (.tmp 52) rfl w.heap.size tp _ rfl I7.el.top q 1 [.slice Av nv cv] 241 rfl X7.out rfl rfl cD.out I7.bl.size (fun v8 w8 ho hg hv=>?_);obtain⟨Aw,cw,ew⟩:=ho.slice;obtain⟨nw,dk⟩:=nm (((vs.map fun v=>[v])++[[Value.slice Av nv cv]]).length);rw[dk]at ew;subst ew;have I9:=MY (I7.next cx.out O7.out ho hg);have k8:=I7.el.blk.ownG I7.el.top (by decide) hg;obtain⟨s8,f8⟩:=k8.at 1 _ rfl;have ds:=k8.lt;refine hK.out _ _ ⟨⟨s8,ds⟩,trivial⟩ (fun ad=>?_);try simp only[PT]
   repeat(first|(refine jD (v:=?_) rfl rfl rfl ?_ ?_;rotate_left;(· intro w ag;(try dsimp only at ag);go_simp;try(with_reducible rfl));try simp only[PT])|(refine jC (v:=?_) rfl rfl rfl rfl ?_ ?_;rotate_left;(· intro w ag;(try dsimp only at ag);go_simp;try(with_reducible rfl));try simp only[PT]))
   refine pE rfl rfl rfl rfl rfl (fun K hK=>?_);go_simp;refine hK.out _ _ trivial (fun bn=>?_);try simp only[PT]
   refine aj ?_;go_wp2_with fail;refine⟨⟨i+1,_,_,_,by omega,by go_num,I9.out⟩,?_⟩;simp[intOf];omega
def Ky(bp tb sb b o m c u:Nat)(e0:Int)(x y:Tr)(l)(q:Option Rt)(w)(hp:Blk w bp [.pointer sb] 410)(ht:Blk w tb [.slice (some ⟨b,o,none⟩) m c] 241)(hs:Blk w sb (.int .i64 e0::l) 416)(hT:Tab w)(bu:u<m)(ag:∀V k,w.grownBy V (some sb)->Blk V sb (.int .i64 k::l) 416->V.cell? ⟨sb,2,none⟩=some (.int .i64 (u:Int))/\V.rangeAt b (o+u*3) [.bool y.neg,.string y.n,.string y.d])(hc:(e0≠0/\q=none)\/(e0=0/\∃a b:Rt,a.ok/\b.ok/\x=trR a/\y=trR b/\q=divR a b/\b.n≠0)) :Calls prog 304 #[.agg #[.bool x.neg,.string x.n,.string x.d],.pointer bp,.pointer tb] w (kM w sb l 416 q):=by
 obtain⟨N,hN⟩:=nm w.heap.size;have HN:=MY hN;have br:sb<N:=by rw[<-hN];exact hs.lt
 have K0:=(Blk.new w [.bool x.neg,.string x.n,.string x.d] 37).alloc (.cells #[.bool false,.string ⟨#[]⟩,.string ⟨#[]⟩] 37);have K1:=Blk.new (w.alloc (.cells #[.bool x.neg,.string x.n,.string x.d] 37)) [.bool false,.string ⟨#[]⟩,.string ⟨#[]⟩] 37;have B1:=(ak w (.cells #[.bool x.neg,.string x.n,.string x.d] 37)).alloc (by simp) (.cells #[.bool false,.string ⟨#[]⟩,.string ⟨#[]⟩] 37);rw[NU,hN]at K1;rw[hN]at K0;obtain⟨W1,ba⟩:=nm ((w.alloc (.cells #[.bool x.neg,.string x.n,.string x.d] 37)).alloc (.cells #[.bool false,.string ⟨#[]⟩,.string ⟨#[]⟩] 37));rw[ba]at K0 K1 B1;have HG:=MY (du B1 (some sb));have HD:=MY (zY sb e0 x y l 416 q W1.drew (hs.below B1 hs.lt).drew (hT.below (Below.drew B1)) hc);have al:Hid (∀V k,w.grownBy V (some sb)->(∀j,j<=N->j≠sb->V.heap[j]? = W1.heap[j]?)->Blk V sb (.int .i64 k::l) 416->Blk V N [.bool x.neg,.string x.n,.string x.d] 37/\V.cell? ⟨bp,0,none⟩=some (.pointer sb)/\bp<V.heap.size/\V.cell? ⟨tb,0,none⟩=some (.slice (some ⟨b,o,none⟩) m c)/\tb<V.heap.size/\V.cell? ⟨sb,2,none⟩=some (.int .i64 (u:Int))/\sb<V.heap.size/\V.rangeAt b (o+u*3) [.bool y.neg,.string y.n,.string y.d]):=fun V k hw hg hb=>by
  have bk:bp<N:=by rw[<-hN];exact hp.lt
  have bl:tb<N:=by rw[<-hN];exact ht.lt
  have p1:Blk V bp [.pointer sb] 410:=(hg bp (NS bk) (hp.ne hs (by decide))).trans (hp.below B1 hp.lt);have t1:Blk V tb [.slice (some ⟨b,o,none⟩) m c] 241:=(hg tb (NS bl) (ht.ne hs (by decide))).trans (ht.below B1 ht.lt);obtain⟨r1,r2⟩:=ag V k hw hb;exact⟨(hg N (No _) (by omega)).trans K0,(p1.at 0 _ rfl).1,p1.lt,(t1.at 0 _ rfl).1,t1.lt,r1,hb.lt,r2⟩
 have aA:=MY (hs.below B1 hs.lt);have ax:=MY K1;obtain⟨bs,bt⟩:=ix (k:=u) (n:=m);clear hp ht hs hT hc ag K0 K1 B1;go_enter func304,ntmps304;go_wp2_with fail;refine aJ (S:=fun w'=>Blk w' N [.bool x.neg,.string x.n,.string x.d] 37/\w'.cell? ⟨bp,0,none⟩=some (.pointer sb)/\bp<w'.heap.size/\w'.cell? ⟨tb,0,none⟩=some (.slice (some ⟨b,o,none⟩) m c)/\tb<w'.heap.size/\w'.cell? ⟨sb,2,none⟩=some (.int .i64 (u:Int))/\sb<w'.heap.size/\w'.rangeAt b (o+u*3) [.bool y.neg,.string y.n,.string y.d]) [0,1,2,3,4,5,6,7,8,9,10,1011,1012] (al.out _ e0 (aY HG.out (eh _ _)) (fun _ _ _=>rfl) aA.drew) (fun ab=>?_);repeat(first|(refine sR 37 (fun w' an=>ai an.1) ?_)|(refine sR 37 (fun w' an=>an.2.2.2.2.2.2.2) ?_)|(refine sQ ?_)|(refine sS ?_))
 refine az fun K hK=>?_;go_simp;refine HD.mono ?_;rintro e w2 ⟨z,k,rfl,hk,hg,bb,bc⟩;replace hg:=aY (eh W1 (some sb)) hg;have ao:∀j,j<=N->j≠sb->w2.heap[j]? = W1.heap[j]?:=fun j h1 h2=>hg.block j (Nt h1 (Nat.lt_of_succ_lt ax.lt)) (fun e=>h2 (Option.some.inj e));have bh:=MY (al.out w2 k (aY HG.out hg) ao hk);have ac:=MY (ax.by_sb aA.out (by decide) hg);have be:=MY (aY HG.out hg);have bd:=MY hk;have HZ:=MY (And.intro bb bc);obtain⟨W3,ad⟩:=nm (((w2.setCell ⟨N+1,0,none⟩ (.bool z.neg)).setCell ⟨N+1,1,none⟩ (.string z.n)).setCell ⟨N+1,2,none⟩ (.string z.d));have bg:Hid (Blk W3 (N+1) [.bool z.neg,.string z.n,.string z.d] 37):=by rw[<-ad];exact ac.put3 _ _ _
 have av:Hid (w.grownBy W3 (some sb)):=by rw[<-ad];exact iD be.out (by rw[hN];omega) _ _ _
 have ar:Hid (Blk W3 sb (.int .i64 k::l) 416):=by rw[<-ad];exact bd.off3 (by omega) _ _ _
 have bi:=MY (al.out W3 k av.out (fun j h1 h2=>by
  rw[<-ad,NF _ _ _ _ (show j≠N+1 by omega),NF _ _ _ _ (show j≠N+1 by omega),NF _ _ _ _ (show j≠N+1 by omega)];exact ao j h1 h2) ar.out)
 obtain⟨z0,bm⟩:=ac.at 0 _ rfl;obtain⟨z1,bn⟩:=ac.at 1 _ rfl;obtain⟨z2,bo⟩:=ac.at 2 _ rfl;have zl:=ac.lt;clear hk hg bb bc ao ba HD;refine hG hK (by exact bh.out) fun ab=>?_;clear hK K;repeat refine ay ?_
 refine az fun K hK=>?_;go_simp;refine hG hK (by exact bi.out) fun ab=>?_;clear hK K;refine aj ?_;clear z0 z1 z2 bm bn bo zl ad ab;go_wp2_with fail;exact bodyPost_ret (gm _ 4 results304 (N+1) _ _ _ _ _ rfl bg.out) rfl ⟨z,k,rfl,ar.out,av.out,HZ.out⟩
def Kz(bp tb sb b o m c u:Nat)(y:Tr)(yr:Rt)(l)(L:List Tr)(v)(w)(hp:Blk w bp [.pointer sb] 410)(ht:Blk w tb [.slice (some ⟨b,o,none⟩) m c] 241)(hs:Blk w sb (.int .i64 0::l) 416)(hT:Tab w)(ad:u<m)(ac:sb<w.heap.size)(ab:∀V k,w.grownBy V (some sb)->Blk V sb (.int .i64 k::l) 416->(V.cell? ⟨sb,2,none⟩=some (.int .i64 (u:Int))/\V.rangeAt b (o+u*3) [.bool y.neg,.string y.n,.string y.d])/\RowC V 3 v (L.map trC))(hL:L.length<=1048576)(hx:∀x∈L,∃a:Rt,a.ok/\x=trR a)(hy:yr.ok/\yr.n≠0/\y=trR yr) :Calls prog 303 #[v,.func (.func 304) #[] #[.pointer bp,.pointer tb]] w (fun e w'=>∃(v':Value)(k:Int),e=.returned v'/\Blk w' sb (.int .i64 k::l) 416/\w.grownBy w' (some sb)):=by
 refine(ux 304 #[.pointer bp,.pointer tb] v L
  (fun _ _ W=>∃kk:Int,Blk W sb (.int .i64 kk::l) 416/\w.grownBy W (some sb)) w (fun _ _=>rfl) hL ?_ ?_ ?_ ?_).mono ?_
 ·rintro k ys W W' ⟨kk,h1,h2⟩ hb;exact⟨kk,h1.below hb ac,qS h2 hb⟩
 ·rintro k ys W ⟨kk,h1,h2⟩;exact(ab W kk h2 h1).2
 ·exact⟨0,hs,World.grownBy.refl _ _⟩
 ·rintro k x ys W ag al ⟨kk,h1,h2⟩ hW;obtain⟨a,ha,rfl⟩:=hx x (Oc ag);have hq:∃q,(kk≠0/\q=none)\/(kk=0/\∃a' b':Rt,a'.ok/\b'.ok/\trR a=trR a'/\y=trR b'/\q=divR a' b'/\b'.n≠0):=by
   by_cases hk:kk=0
   ·exact⟨_,.inr ⟨hk,a,yr,ha,hy.1,rfl,hy.2.2,rfl,hy.2.1⟩⟩
   ·exact⟨none,.inl ⟨hk,rfl⟩⟩
  obtain⟨q,hc⟩:=hq;refine(Ky bp tb sb b o m c u kk (trR a) y l q W (hp.by_sb hs (by decide) h2) (ht.by_sb hs (by decide) h2) h1 (hT.by_sb hs h2) ad (fun V k' hg hb=>(ab V k' (aY h2 hg) hb).1) hc).mono ?_;rintro e W' ⟨z,k2,rfl,q1,q2,_,_⟩;exact⟨z,rfl,⟨k2,q1,aY h2 q2⟩,fp.of_grown q2 ac⟩
 ·rintro e w' ⟨v',ys,rfl,_,_,⟨kk,h3,h4⟩,_⟩;exact⟨v',kk,rfl,h3,h4⟩
def RowC.from_{w}{n c:Nat}{b o:Nat}{L:List (List Value)}(h:RowC w 3 (.slice (some ⟨b,o,none⟩) n c) L)(i:Nat)(hi:i<=n):RowC w 3 (.slice (some ⟨b,o+i*3,none⟩) (n-i) (c-i)) (L.drop i):=by
 obtain⟨A,c2,e,hc,H⟩:=h;injection e with e1 e2 e3;subst e1 e2 e3;refine⟨_,_,by rw[List.length_drop],by rw[List.length_drop];omega,fun j cs hj=>?_⟩;rw[List.getElem?_drop]at hj;obtain⟨b',o',e4,hb,hr⟩:=H (i+j) cs hj;injection e4 with e4;injection e4 with e5 e6;subst e5 e6;exact⟨b,o+i*3,rfl,hb,by rw[show o+i*3+j*3=o+(i+j)*3 by omega];exact hr⟩
def KA(w:World)(o:Option (List Rt))(e:Ending)(w':World):Prop:=eB w w'/\∃(ab:Int)(xv pv:Value) (k:Int),e=.returned (.tuple #[.int .i64 ab,xv,pv,.int .i64 k])/\((ab=1/\k=0)<->o.isSome=true)/\∀xs,o=some xs->RowC w' 3 xv (xs.map aS)
def KC{a:List (List Rt)}{b}{u:Nat}(h:elimTo (beginR a b) u=none):solR a b u=none:=by unfold solR;rw[h]
def KD{a:List (List Rt)}{b}{u:Nat}{s:ElS}(h:elimTo (beginR a b) u=some s)(hb:ky s u=true):solR a b u=none:=by unfold solR;rw[h];simp only;rw[if_pos hb]
def KE{a:List (List Rt)}{b}{u i:Nat}{s:ElS}(h:elimTo (beginR a b) u=some s)(hi:s.piv[i]? = some none):solR a b u=none:=by
 unfold solR;rw[h];simp only;split
 ·rfl
 ·exact iw hi rfl
def KF{a:List (List Rt)}{b}{u:Nat}{s:ElS}(h:elimTo (beginR a b) u=some s)(hb:ky s u=false)(hl:s.piv.length=u)(hp:∀i,i<u->∃q,s.piv[i]? = some (some q)):solR a b u=some ((List.range u).map (cE s u)):=by
 unfold solR;rw[h];simp only;rw[if_neg (by simp[hb])];have e:s.piv=(List.range u).map fun i=>s.piv.getD i none:=by
  apply List.ext_getElem?;intro k;by_cases hk:k<u
  ·rw[Ou,List.getElem?_range hk,Option.map_some,Oq,Nx (by omega)];rfl
  ·rw[OJ (by omega),OJ (by simp;omega)]
 have ab:∀k,k<=u->mapO (fun(p:Option Nat)=>p.map fun i=>at2 s.rows i u) (s.piv.take k)=some ((List.range k).map (cE s u)):=by
  intro k;induction k with
  |zero=>intro _;rfl
  |succ k ih=>
   intro hk
   obtain⟨q,hq⟩:=hp k (by omega)
   have:=ir hq (ih (by omega)) (y:=at2 s.rows q u) rfl
   rw[this,List.range_succ,N9]
   simp only[NP,List.map_nil]
   unfold cE
   rw[Oq,hq]
   rfl
 have:=ab u (No _);rwa[Ny (by omega)]at this
def KG{n m:Nat}{s:ElS}{tk:List Bool}{j:Nat}(h:bK n m s.rows)(ht:∀i,i<32->tk[i]? = some (s.tk i))(hn:n<=32)(hj:j<m){r:Int}(hp:iE (frT (trM s.rows) tk j) (trM s.rows).length r):(r= -1/\ky s j=false)\/∃k:Nat,k<n/\r=(k:Int)/\ky s j=true/\(at2 s.rows k j).n≠0:=by
 rw[qP,h.len]at hp;have h1:=hp.congr (fun i hi=>z8 h ht hn hi hj);rcases h1 with⟨k,hk,rfl,h2,_⟩|⟨rfl,h2⟩
 ·refine .inr ⟨k,hk,rfl,?_,?_⟩
  ·unfold ky;rw[List.any_eq_true];exact⟨k,OH.2 (by rw[h.len];exact hk),h2⟩
  ·simp at h2;exact h2.2
 ·refine .inl ⟨rfl,?_⟩;unfold ky;rw[List.any_eq_false];intro i hi;rw[OH,h.len]at hi;have:=h2 i hi;simp only at this;rw[this];simp
def KH{w}{n:Nat}{av bv}{M:List bQ}{b}(h:fS w n av bv M b)(hT:Tab w):Calls prog 277 #[av,bv] w (KA w (solR (M.map (·.l)) b n)):=by
 have ax:=h.small;have cc:=MY (Kr h hT);have bk:=MY (fun W (hW:eB w W)=>Kx (h.below hW) (hT.below hW));have di:Hid (∀W,eB w W->Tab W):=fun W hW=>hT.below hW;have bb:Hid (bK n (n+1+n) (beginR (M.map (·.l)) b)):=JZ ⟨by rw[N6];exact h.mlen,fun r hr=>by
  obtain⟨q,hq,rfl⟩:=OE.1 hr;exact h.row q hq⟩ h.blen h.bok
 obtain⟨a,ha⟩:=nm (M.map (·.l));rw[ha]at bk bb⊢;obtain⟨A,c,ev⟩:=h.mat.top.len;obtain⟨Ab,cb,eb⟩:=h.rhs.len;rw[N6,h.mlen]at ev;rw[N6,h.blen]at eb;subst ev eb;obtain⟨m,hm⟩:=nm (n+1+n);rw[hm]at bb;have dr:m<=65:=by omega
 have ao:n<m:=by omega
 have HM:=MY hm;clear h hT ha hm;go_enter func277,ntmps277;go_wp2_with fail;refine cc.mono ?_;rintro e w1 ⟨rfl,cl⟩;have B1:=MY cl;clear cl cc;go_wp2_with fail;refine(bk.out w1 B1.out).mono ?_;rintro e w2 ⟨sb,tp,pv,vs,rfl,br⟩;have ea:=MY br;obtain⟨p9,cw⟩:=nm w2.heap.size;obtain⟨W3,bo⟩:=nm (w2.alloc (.cells #[.pointer (some ⟨sb,0,none⟩)] 410));have K3:Hid (Blk W3 p9 [.pointer sb] 410):=by rw[<-bo,<-cw];exact Blk.new _ _ _
 have cm:eB w2 W3:=by rw[<-bo];exact ak _ _
 have I3:=MY (br.below cm);have B3:Hid (eB w W3):=B1.trans (I3.bl.mono B1.size);have q9:=(K3.at 0 _ rfl).1;have l9:=K3.lt;have e3:=I3.el;rw[Ny (by rw[bb.len];exact No _)]at e3;have cd:=MY (Km e3 bb.out ax (by omega) ao ax I3.lo (di.out W3 B3.out));clear br cm bk e3;go_wp2_with fail;refine cd.mono ?_;rintro e w4 ⟨rfl,B5,e',pv',cD,es,M',hI,ag⟩;have E4:=MY hI;have K4:=MY (hI.keep p9 _ K3.out);have B4:Hid (eB w w4):=B3.trans (hI.bl.mono B1.size);clear hI q9 l9 cd K3 I3 B3 bo cw;have q9:=(K4.at 0 _ rfl).1;have l9:=K4.lt;have s0:=(E4.el.blk.at 0 _ rfl).1;have aA:=E4.el.blk.lt;by_cases he:e'=0
 case neg=>
  have ac:Hid (solR a b n=none):=by
   rcases ag with⟨s,hs⟩|⟨_,h⟩
   ·exact absurd hs.err he
   ·exact KC h
  clear ag;have t1:decide (¬e'=0)=true:=by simpa using he
  have cR:Hid (∀V:World,V.heap=w4.heap->V.cell? ⟨p9,0,none⟩=some (.pointer sb)/\p9<V.heap.size/\V.cell? ⟨sb,0,none⟩=some (.int .i64 e')/\sb<V.heap.size):=fun V hV=>by
   simp only[World.cell?,hV];exact⟨q9,l9,s0,aA⟩
  go_wp2_with fail;refine aJ (S:=fun w'=>w'.cell? ⟨p9,0,none⟩=some (.pointer sb)/\p9<w'.heap.size/\w'.cell? ⟨sb,0,none⟩=some (.int .i64 e')/\sb<w'.heap.size) [0,1,2,3,4,5,6,7,8] (cR.out _ rfl) (fun ab=>?_);repeat refine ay ?_
  refine aj ?_;clear ab;go_wp2_with fail;refine bodyPost_ret (v:= .tuple #[.int .i64 0,.slice none 0 0,.slice none 0 0,.int .i64 e']) (by simp[results,results277,go_sem]) rfl ?_;exact⟨B4.drew,0,_,_,e',rfl,⟨fun h=>absurd h.1 (by decide),fun h=>by rw[ac.out]at h;cases h⟩,fun xs h=>by rw[ac.out]at h;cases h⟩
 subst he;obtain⟨s,hs⟩:∃s,ElLaw (beginR a b) n 0 pv' cD M' s:=by
  rcases ag with h|⟨h,_⟩
  ·exact h
  ·exact absurd rfl h
 have L:=MY hs;have HO:=MY (og bb.out (NS ao) hs.run);have ca:=MY (Ke E4.el m n (by rw[E4.len];exact ax) E4.row ao (by omega) rfl);clear ag hs;go_wp2_with fail;refine ca.mono ?_;rintro e w5 ⟨r,rfl,bh,hp⟩;rw[L.mat]at hp;have dn:=KG HO.rows L.tkn ax ao hp;have E5:=MY (E4.below bh);have K5:=MY (K4.below bh K4.lt);have bg:Hid (eB w w5):=B4.trans (bh.mono B4.size);clear bh hp q9 l9 s0 aA ca E4 K4 B4;have q9:=(K5.at 0 _ rfl).1;have l9:=K5.lt;rcases dn with⟨rfl,cu⟩|⟨k,hk,rfl,cn,cs⟩
 ·have bc:=MY (Kt E5.el L.mat HO.out L.piv ao ax (by omega) ax E5.tab);have cP:=MY cu;clear cu;go_wp2_with fail;refine bc.mono ?_;rintro e w6 ⟨k,xv,eo,ys,rfl,hS,en,bs⟩;have S:=MY hS;have K6:=MY (K5.by_sb E5.el.blk (by decide) hS.gr);have B6:Hid (eB w w6):=bg.grown hS.gr bg.size (fun j e=>by cases e;exact Nv B1.size E5.lo);obtain⟨X1,Y1,ex⟩:=hS.x.slice;obtain⟨X2,Y2,ep⟩:=hS.p.slice;simp only[N6,N7]at ex ep;subst ex ep;clear hS q9 l9 bc;have q9:=(K6.at 0 _ rfl).1;have l9:=K6.lt;have s0:=(S.blk.at 0 _ rfl).1;have aA:=S.blk.lt;rcases bs with⟨rfl,rfl,bd⟩|⟨cv,i,hi,co⟩
  ·have ba:=MY (KF L.run cP.out HO.len bd);have HX:Hid (RowC w6 3 (.slice X1 n Y1) (((List.range n).map (cE s n)).map aS)):=by
    have:=S.x.row;rw[Aq]at this;exact this
   clear bd;simp only[ND];go_wp2_with fail;refine bodyPost_ret (v:= .tuple #[.int .i64 1,.slice X1 n Y1,.slice X2 0 Y2,.int .i64 0]) (by simp[results,results277,go_sem]) rfl ?_;exact⟨B6.out,1,_,_,0,rfl,⟨fun _=>by rw[ba.out];rfl,fun _=>⟨rfl,rfl⟩⟩,fun xs h=>by rw[ba.out]at h;cases h;exact HX.out⟩
  ·have ac:=MY (KE L.run co);obtain⟨q,hq⟩:∃q,ys.length=q+1:=⟨ys.length-1,by have:=List.length_pos_iff.2 cv;omega⟩
   rw[hq];have tq:decide ((0:Int)<((q+1:Nat):Int))=true:=by simp
   clear cv co hq;by_cases hk:k=0
   ·subst hk;go_wp2_with fail;refine bodyPost_ret (v:= .tuple #[.int .i64 3,.slice X1 n Y1,.slice X2 (q+1) Y2,.int .i64 0]) (by simp[results,results277,go_sem]) rfl ?_;exact⟨B6.out,3,_,_,0,rfl,⟨fun h=>absurd h.1 (by decide),fun h=>by rw[ac.out]at h;cases h⟩,fun xs h=>by rw[ac.out]at h;cases h⟩
   ·have t2:decide (¬k=0)=true:=by simpa using hk
    have db:Hid (∀V:World,V.heap=w6.heap->V.cell? ⟨p9,0,none⟩=some (.pointer sb)/\p9<V.heap.size/\V.cell? ⟨sb,0,none⟩=some (.int .i64 k)/\sb<V.heap.size):=fun V hV=>by
     simp only[World.cell?,hV];exact⟨q9,l9,s0,aA⟩
    go_wp2_with fail;refine aJ (S:=fun w'=>w'.cell? ⟨p9,0,none⟩=some (.pointer sb)/\p9<w'.heap.size/\w'.cell? ⟨sb,0,none⟩=some (.int .i64 k)/\sb<w'.heap.size) [0,1,2,3,4,5,6,7,8] (db.out _ rfl) (fun ab=>?_);repeat refine ay ?_
    refine aj ?_;clear ab;go_wp2_with fail;refine bodyPost_ret (v:= .tuple #[.int .i64 0,.slice none 0 0,.slice none 0 0,.int .i64 k]) (by simp[results,results277,go_sem]) rfl ?_;exact⟨B6.drew,0,_,_,k,rfl,⟨fun h=>absurd h.1 (by decide),fun h=>by rw[ac.out]at h;cases h⟩,fun xs h=>by rw[ac.out]at h;cases h⟩
 ·have ac:=MY (KD L.run cn);obtain⟨g,c2,v,A2,c3,l,rfl,bn,bu,rfl,g0,gf,gl,ho⟩:=E5.at hk;obtain⟨y,hy⟩:=gx (l:=l) (i:=n);obtain⟨g2,c4,c5,rb,ro,eg,ar⟩:=qV E5.el bn bu hy;obtain⟨rfl,rfl⟩:g=g2/\c2=c4:=by
   injection eg with a1 a2 a3;injection a1 with a1;injection a1 with a1;exact⟨a1,a3⟩
  clear eg;have cx:=ar w5 0 (World.grownBy.refl _ _) E5.el.blk;have e0:A2=some ⟨rb,ro,none⟩/\c3=c5:=by
   have:=g0.symm.trans cx.1.1;have:=Option.some.inj this;injection this with h1 h2 h3;exact⟨h1,h3⟩
  obtain⟨rfl,rfl⟩:=e0;have ei:m<=c3:=by
   obtain⟨_,_,ee,hc,_⟩:=ho.row;injection ee with h1 h2 h3;subst h3;rw[N6,bu]at hc;exact hc
  obtain⟨r0,bw,bx⟩:∃r0,s.rows[k]? = some r0/\l=r0.map trR:=by
   have h1:=bn;rw[L.mat]at h1;unfold trM at h1;rw[Ou]at h1
   cases hq:s.rows[k]? with
   |none=>rw[hq]at h1;cases h1
   |some q=>rw[hq]at h1;cases h1;exact⟨q,rfl,rfl⟩
  have bi:=HO.rows.row r0 (Oc bw);have dl:Hid ((at2 s.rows k n).ok/\(at2 s.rows k n).n≠0/\y=trR (at2 s.rows k n)):=by
   have cq:n<r0.length:=by rw[bi.1];exact ao
   have ci:at2 s.rows k n=r0[n]:=ut bw (Nx cq);refine⟨by rw[ci];exact bi.2 _ (OG _),cs,?_⟩;rw[bx,Ou,Nx cq]at hy;rw[ci];exact(Option.some.inj hy).symm
  have dk:Hid (∀x∈l.drop (n+1),∃a:Rt,a.ok/\x=trR a):=fun x hx=>by
   have cC:=List.mem_of_mem_drop hx;rw[bx]at cC;obtain⟨a,ha,rfl⟩:=OE.1 cC;exact⟨a,bi.2 a ha,rfl⟩
  obtain⟨rest,al⟩:=nm ((.slice (some ⟨g,0,none⟩) n c2:Value):: .int .i64 (n:Int)::(pv'.map (fun i=>Value.int .i64 i)++cD.map Value.bool));obtain⟨tb,cz⟩:=nm w5.heap.size;obtain⟨W6,bp⟩:=nm (w5.alloc (.cells #[.slice (some ⟨rb,ro,none⟩) m c3] 241));have be:eB w5 W6:=by rw[<-bp];exact ak _ _
  have T6:Hid (Blk W6 tb [.slice (some ⟨rb,ro,none⟩) m c3] 241):=by rw[<-bp,<-cz];exact Blk.new _ _ _
  have E6:=MY (E5.below be);have K6:=MY (K5.below be K5.lt);have B6:Hid (eB w W6):=bg.trans (be.mono bg.size);have an:w5.grownBy W6 (some sb):=du be _;have cf:Hid (∀V k',W6.grownBy V (some sb)->Blk V sb (.int .i64 k'::rest) 416->(V.cell? ⟨sb,2,none⟩=some (.int .i64 (n:Int))/\V.rangeAt rb (ro+n*3) [.bool y.neg,.string y.n,.string y.d])/\RowC V 3 (.slice (some ⟨rb,ro+(n+1)*3,none⟩) (m-(n+1)) (c3-(n+1))) ((l.drop (n+1)).map trC)):=fun V k' h1 h2=>by
   rw[<-al]at h2;refine⟨⟨(h2.at 2 _ rfl).1,(ar V k' (aY an h1) h2).2⟩,?_⟩;have h3:=(ho.by_sb E5.el.blk (aY an h1)).row.from_ (n+1) (by omega);rw[<-List.map_drop]at h3;exact h3
  have df:Hid (Blk W6 sb (.int .i64 0::rest) 416):=by
   have:=E6.el.blk;rw[al]at this;exact this
  have cN:=MY (Kz p9 tb sb rb ro m c3 n y _ rest (l.drop (n+1)) _ W6.drew K6.drew T6.drew df.drew E6.tab.drew ao E6.el.blk.lt (fun V k' h1 h2=>cf.out V k' (aY (eh _ _) h1) h2) (by rw[List.length_drop];omega) dk.out dl.out);have ch:Hid (∀V:World,V.heap=W6.heap->V.cell? ⟨tb,0,none⟩=some (.slice (some ⟨rb,ro,none⟩) m c3)/\tb<V.heap.size/\V.cell? ⟨p9,0,none⟩=some (.pointer sb)/\p9<V.heap.size/\V.cell? ⟨sb,2,none⟩=some (.int .i64 (n:Int))/\sb<V.heap.size):=fun V hV=>by
   simp only[World.cell?,hV];exact⟨(T6.at 0 _ rfl).1,T6.lt,(K6.at 0 _ rfl).1,K6.lt,(E6.el.blk.at 2 _ rfl).1,E6.el.blk.lt⟩
  have s1:=(E5.el.blk.at 1 _ rfl).1;have dT:=E5.el.blk.lt;have em:IntKind.i64.wrap ((n:Int)+1)=(n:Int)+1:=IntWalk.i64_in ((n:Int)+1) ⟨by omega,by omega⟩;obtain⟨ed,ef⟩:=ix (k:=k) (n:=n);have er:decide ((0:Int)<=(k:Int))=true:=by simp
  have dy:(n:Int)+1<=(m:Int):=by omega
  have ds:(m:Int)<=(c3:Int):=by omega
  have dv:(0:Int)<=(n:Int)+1:=by omega
  have ec:¬(c3=n+1):=by have:=HM.out;omega
  clear ar cx bn bu hy ho bw bx bi be an cn cs;go_wp2_with fail;refine aJ (S:=fun w'=>w'.cell? ⟨tb,0,none⟩=some (.slice (some ⟨rb,ro,none⟩) m c3)/\tb<w'.heap.size/\w'.cell? ⟨p9,0,none⟩=some (.pointer sb)/\p9<w'.heap.size/\w'.cell? ⟨sb,2,none⟩=some (.int .i64 (n:Int))/\sb<w'.heap.size) [0,1,2,3,4,5,6,7,1008,9] (ch.out _ rfl) (fun ab=>?_);repeat refine ay ?_
  refine az fun K hK=>?_;go_simp;refine cN.mono ?_;rintro e w7 ⟨v7,kk,rfl,bt,cp⟩;have ad:=aY (eh W6 (some sb)) cp;have S7:=MY (ch.out W6 rfl);have K7:=MY (K6.by_sb E6.el.blk (by decide) ad);have T7:=MY (T6.by_sb E6.el.blk (by decide) ad);have B7:Hid (eB w w7):=B6.grown ad B6.size (fun j e=>by cases e;exact Nv B1.size E5.lo);have bm:=MY bt;have H2:=MY (cf.out w7 kk ad bt).1.1;clear bt cp ad q9 l9 s1 dT bp cz;refine hG hK (by exact⟨(T7.at 0 _ rfl).1,T7.lt,(K7.at 0 _ rfl).1,K7.lt,H2.out,bm.lt⟩) fun ab=>?_;clear hK K;repeat refine ay ?_
  refine aj ?_;clear ab;have q9:=(K7.at 0 _ rfl).1;have l9:=K7.lt;have s0:=(bm.at 0 _ rfl).1;have aA:=bm.lt;by_cases cr:kk=0
  ·subst cr;go_wp2_with fail;refine bodyPost_ret (v:= .tuple #[.int .i64 2,.slice none 0 0,v7,.int .i64 0]) (by simp[results,results277,go_sem]) rfl ?_;exact⟨B7.out,2,_,_,0,rfl,⟨fun h=>absurd h.1 (by decide),fun h=>by rw[ac.out]at h;cases h⟩,fun xs h=>by rw[ac.out]at h;cases h⟩
  ·have t3:decide (¬kk=0)=true:=by simpa using cr
   have dd:Hid (∀V:World,V.heap=w7.heap->V.cell? ⟨p9,0,none⟩=some (.pointer sb)/\p9<V.heap.size/\V.cell? ⟨sb,0,none⟩=some (.int .i64 kk)/\sb<V.heap.size):=fun V hV=>by
    simp only[World.cell?,hV];exact⟨q9,l9,s0,aA⟩
   go_wp2_with fail;refine aJ (S:=fun w'=>w'.cell? ⟨p9,0,none⟩=some (.pointer sb)/\p9<w'.heap.size/\w'.cell? ⟨sb,0,none⟩=some (.int .i64 kk)/\sb<w'.heap.size) [0,1,2,3,4,5,6,7,8] (dd.out _ rfl) (fun ab=>?_);repeat refine ay ?_
   refine aj ?_;clear ab;go_wp2_with fail;refine bodyPost_ret (v:= .tuple #[.int .i64 0,.slice none 0 0,.slice none 0 0,.int .i64 kk]) (by simp[results,results277,go_sem]) rfl ?_;exact⟨B7.drew,0,_,_,kk,rfl,⟨fun h=>absurd h.1 (by decide),fun h=>by rw[ac.out]at h;cases h⟩,fun xs h=>by rw[ac.out]at h;cases h⟩
end Go.Proofs.YtgbbhcbkldhjiaaGreatDoor
