import Derived.Test.YtgbbhcbkldhjiaaGreatDoorK06
import Derived.Test.YtgbbhcbkldhjiaaGreatDoorK09
import Derived.Shelf.SlicesE.Equal
import Derived.Shelf.SlicesE.Compact
import Derived.Ground.SlgfProg
import Derived.Shelf.SlicesE.IndexFunc
import Derived.Shelf.SlicesE.DeleteFunc
import Derived.Test.YtgbbhcbkldhjiaaGreatDoorK10
set_option linter.all false
set_option maxRecDepth 100000
set_option maxHeartbeats 16000000
namespace Go.Proofs.YtgbbhcbkldhjiaaGreatDoor
open Go.Proofs.Tryz Go.RowKit Bf
def kA(c:List Int)(x:aP):Bool:=decide (c.getD x.optNo.toNat 0=x.chNo)
def Hk(r)(day:Int)(cv)(c:List Int)(w)(hV:aQ w r)(hc:RowC w 1 cv (c.map af))(bg:c.length<=1048576)(bh:∀x∈r.ifs,0<=x.optNo/\x.optNo<(c.length:Int)) :Calls prog 251 #[.agg (am r).toArray,.int .i64 day,cv] w (Ret w (.bool (nS r day c))):=by
 have bp:(am r).toArray.size=17:=rfl;obtain⟨A,cap,ev,ad,h⟩:=hV.ifs;obtain⟨A',bd,rfl,ab,h'⟩:=hc;have hl:=hV.ifl;rw[N6]at ev ad ab⊢;have H:=MY h;have H':=MY h';have ba:=MY bh;obtain⟨n,hn⟩:=nm r.ifs.length;obtain⟨m,hm⟩:=nm c.length;have HN:=MY hn;have HM:=MY hm;unfold BIG at hl;rw[hn]at hl ad ev;rw[hm]at bg ab⊢;obtain⟨N,hN⟩:=nm w.heap.size;obtain⟨W1,ar⟩:=nm (w.alloc (.cells (am r).toArray 55));have K1:=Blk.new w (am r) 55;rw[hN,ar]at K1;have B1:Hid (eB w W1):=by rw[<-ar];exact ak _ _
 have q2:=(K1.at 2 _ rfl).1;have q3:=(K1.at 3 _ rfl).1;have q4:W1.cell? ⟨N,4,none⟩=some (.slice A n cap):=by rw[<-ev];exact(K1.at 4 _ rfl).1
 have ql:=K1.lt;obtain⟨res,ag⟩:=nm (nS r day c);have HR:Hid ((decide (r.frm<=day)&&decide (day<r.til)&&r.ifs.all (kA c))=res):=ag;rw[ag];by_cases hf:day<r.frm
 ·have t1:decide (day<r.frm)=true:=by simpa using hf
  have E:Hid (res=false):=by show _=_;rw[<-HR.out,show decide (r.frm<=day)=false by simp;omega];rfl
  go_enter func251,ntmps251;go_wp2;go_ret;exact⟨by rw[E.out];rfl,B1.out⟩
 have t1:decide (day<r.frm)=false:=by simpa using hf
 by_cases av:r.til<=day
 ·have t2:decide (r.til<=day)=true:=by simpa using av
  have E:Hid (res=false):=by show _=_;rw[<-HR.out,show decide (day<r.til)=false by simp;omega];simp
  go_enter func251,ntmps251;go_wp2;go_ret;exact⟨by rw[E.out];rfl,B1.out⟩
 have t2:decide (r.til<=day)=false:=by simpa using av
 have an:Hid (r.ifs.all (kA c)=res):=by
  have:=HR.out;rw[show decide (r.frm<=day)=true by simp;omega,show decide (day<r.til)=true by simp;omega]at this;show _=_;simpa using this
 go_enter func251,ntmps251;go_wp2_with fail;go_loopw [22] (fun i W=>∃k:Nat,k<=n/\i=.int .i64 k/\Hid ((r.ifs.take k).all (kA c)=true)/\Hid (eB w W)) (fun i _=>n-(intOf i).toNat)
 case atStart=>exact⟨0,Nu _,rfl,by simp[Hid],B1.out⟩
 case round=>
  obtain⟨k,hk,rfl,HA,B⟩:=hrel;by_cases bo:k<n
  case neg=>
   obtain rfl:k=n:=by omega
   have E:Hid (res=true):=by show _=_;rw[<-an.out];have:=HA.out;rwa[Ny (by have:=HN.out;omega)]at this
   go_wp2;go_ret;exact⟨by rw[E.out];rfl,B.out⟩
  obtain⟨x,hx⟩:=gx (l:=r.ifs) (i:=k) (by have:=HN.out;omega);obtain⟨h0,h1⟩:=ba.out x (Oc hx);obtain⟨bb,off,rfl,be,hc⟩:=H.out k (aT x) (by rw[Ou,hx];rfl);obtain⟨xo,xc,oN,cN⟩:=x;obtain⟨j,rfl⟩:∃j:Nat,oN=(j:Int):=⟨oN.toNat,by simp only at h0;omega⟩
  have bi:j<m:=by have:=HM.out;simp only at h1;omega
  obtain⟨z,hz⟩:=gx (l:=c) (i:=j) (by rw[HM.out];exact bi);have HP:Hid (kA c ⟨xo,xc,(j:Int),cN⟩=decide (z=cN)):=by
   show _=_;unfold kA;rw[Oq,NI,hz];rfl
  obtain⟨b2,o2,rfl,ac,hc2⟩:=H'.out j (af z) (by rw[Ou,hz];rfl);have HX:=MY hx;have bc:Hid (wr.rangeAt bb (off+k*4) [.string xo,.string xc,.int .i64 (j:Int),.int .i64 cN]):=fun i u hu=>(B.cell (p:=⟨bb,_,none⟩) be).trans (hc i u hu);obtain⟨xb,ax⟩:=nm wr.heap.size;obtain⟨W2,al⟩:=nm (wr.alloc (.cells #[.string xo,.string xc,.int .i64 (j:Int),.int .i64 cN] 118));have X2:=Blk.new wr [.string xo,.string xc,.int .i64 (j:Int),.int .i64 cN] 118;rw[ax,al]at X2;have B2:Hid (eB w W2):=by rw[<-al];exact B.alloc B.size _
  have x2:=(X2.at 2 _ rfl).1;have x3:=(X2.at 3 _ rfl).1;have xl:=X2.lt;have d0:=(B2.cell (p:=⟨b2,_,none⟩) ac).trans (hc2 0 _ rfl);simp only[Na,Ov]at d0;have dl:b2<W2.heap.size:=Nf ac B2.size;obtain⟨bk,bl⟩:=ix (k:=k) (n:=n);obtain⟨bm,bn⟩:=ix (k:=j) (n:=m);go_upto_region 6 with(first|(refine wR 118 bc.out ?_)|(refine wB ax rfl ?_ (cs:=[.string xo,.string xc,.int .i64 (j:Int),.int .i64 cN])))
  change Code.wp _ _ _ _ (wr.alloc (.cells #[.string xo,.string xc,.int .i64 (j:Int),.int .i64 cN] 118));rw[al];simp only[PT];refine aJ (S:=fun w'=>∀b o,b<W2.heap.size->w'.cell? ⟨b,o,none⟩=W2.cell? ⟨b,o,none⟩) [0,1,2,3,4,5,6,7] (fun b o _=>rfl) (fun ao=>?_);repeat refine ay ?_
  refine aj ?_;by_cases h3:z=cN
  ·have HE:Hid (kA c ⟨xo,xc,(j:Int),cN⟩=true):=by show _=_;rw[HP.out];simpa using h3
   have g5:(z != cN)=false:=by simpa using h3
   have aA:=MY (xQ HA.out HX.out HE.out);go_wp2_with fail;refine⟨⟨k+1,by omega,by go_num,aA.out,B2.drew⟩,?_⟩;simp[intOf];omega
  ·have HE:Hid (kA c ⟨xo,xc,(j:Int),cN⟩=false):=by show _=_;rw[HP.out];simpa using h3
   have g5:(z != cN)=true:=by simpa using h3
   have E:Hid (res=false):=by show _=_;rw[<-an.out];exact xR HX.out HE.out
   go_wp2;go_ret;exact⟨by rw[E.out];rfl,B2.drew⟩
def Hl(x:aw)(w):Calls prog 272 #[.agg (aG x).toArray] w (Ret w (.bool x.back)):=by
 have ac:(aG x).toArray.size=7:=rfl;obtain⟨N,hN⟩:=nm w.heap.size;obtain⟨W1,ab⟩:=nm (w.alloc (.cells (aG x).toArray 59));have K1:=Blk.new w (aG x) 59;rw[hN,ab]at K1;have B1:Hid (eB w W1):=by rw[<-ab];exact ak _ _
 have q4:=(K1.at 4 _ rfl).1;have ql:=K1.lt;go_enter func272,ntmps272;go_wp2;go_ret;exact⟨rfl,B1.out⟩
def Hm(v)(L:List aw)(w)(hL:RowC w 7 v (L.map aG))(hl:L.length<=1048576):Calls prog 297 #[v,.func (.func 272) #[] #[]] w (Ret w (.int .i64 (idxI (·.back) L))):=by
 have ao:∀(args:Array Value)(W:World),(callFunc 272 args).run prog W=.ok (.enter 272 args) W:=fun _ _=>rfl;obtain⟨A,c,rfl,ab,h⟩:=hL;rw[N6]at ab⊢;have H:=MY h;obtain⟨n,hn⟩:=nm L.length;have HN:=MY hn;rw[hn]at hl ab⊢;obtain⟨res,ac⟩:=nm (idxI (·.back) L);have HR:=MY ac;rw[ac];go_enter func297,ntmps297;go_wp2_with fail;go_loopw [8] (fun i W=>∃k:Nat,k<=n/\i=.int .i64 k/\Hid (∀y∈L.take k,y.back=false)/\Hid (eB w W)) (fun i _=>n-(intOf i).toNat)
 case atStart=>exact⟨0,Nu _,rfl,by simp[Hid],NB _ _⟩
 case round=>
  obtain⟨k,hk,rfl,HA,B⟩:=hrel;by_cases ax:k<n
  ·obtain⟨x,hx⟩:=gx (l:=L) (i:=k) (by have:=HN.out;omega);obtain⟨bb,off,rfl,an,hc⟩:=H.out k (aG x) (by rw[Ou,hx];rfl);have HC:=MY (Hl x wr);have HX:=MY hx;have ag:Hid (wr.rangeAt bb (off+k*7) (aG x)):=fun i u hu=>(B.cell (p:=⟨bb,_,none⟩) an).trans (hc i u hu);obtain⟨ar,av⟩:=ix (k:=k) (n:=n);obtain⟨t,ht⟩:=nm x.back;have HT:=MY ht;rw[ht]at HC;go_wp2_with (refine wR 59 ag.out ?_);refine HC.mono ?_;rintro e w1 ⟨rfl,al⟩;have B1:=MY (B.trans (al.mono B.size))
   cases t with
   |true=>
    go_wp2
    go_ret
    exact⟨by rw[<-HR.out];unfold idxI;rw[xw HA.out HX.out HT.out];rfl,B1.out⟩
   |false=>
    have ad:=MY (sM HA.out HX.out HT.out)
    go_wp2
    go_roundw
    case rel=>exact⟨k+1,by omega,by go_num,ad.out,B1.out⟩
    case measure=>simp[intOf];omega
  ·obtain rfl:k=n:=by omega
   have E:Hid (res= -1):=by
    show _=_;rw[<-HR.out];unfold idxI;rw[xz (fun y hy=>HA.out y (by rw[Ny (by have:=HN.out;omega)];exact hy))]
   go_wp2;go_ret;exact⟨by rw[E.out];rfl,B.out⟩
def yM(r)(w)(hV:aQ w r):Calls prog 247 #[.agg (am r).toArray] w (Ret w (.bool (fM r))):=by
 have al:(am r).toArray.size=17:=rfl;have hl:=hV.inl;unfold BIG at hl;obtain⟨N,hN⟩:=nm w.heap.size;obtain⟨W1,ad⟩:=nm (w.alloc (.cells (am r).toArray 55));have K1:=Blk.new w (am r) 55;rw[hN,ad]at K1;have ag:eB w W1:=by rw[<-ad];exact ak _ _
 have HI:=Hm r.inv r.ins W1 (hV.ins.below ag) hl;have HB:Hid (decide (0<=idxI (·.back) r.ins)=fM r):=xB _ _;obtain⟨A,c,e⟩:=hV.ins.len;have q5:=(K1.at 5 _ rfl).1;have ql:=K1.lt;rw[e]at q5 HI;generalize (r.ins.map aG).length=n at *;have HC:Hid (Calls prog 271 #[.slice A n c,.func (.func 272) #[] #[]] W1 (Ret W1 (.bool (fM r)))):=by
  have ac:=MY HI;obtain⟨z,hz⟩:=nm (idxI (·.back) r.ins);rw[hz]at ac HB;obtain⟨x,hx⟩:=nm (fM r);rw[hx]at HB⊢;go_enter func271,ntmps271;go_wp2_with fail;refine ac.mono ?_;rintro e w2 ⟨rfl,ab⟩;have B2:=MY ab;go_wp2;go_ret;exact⟨by rw[<-HB.out];rfl,B2.out⟩
 have B1:=MY ag;go_enter func247,ntmps247;go_wp2_with fail;refine HC.mono ?_;rintro e w2 ⟨rfl,ab⟩;have B2:=MY (B1.trans (ab.mono B1.size));go_wp2;go_ret;exact⟨rfl,B2.out⟩
def byC(l:List Int):List Value:=l.map fun x=>Value.int .i64 x
def gT(s:SrcR)(b:List Int)(i:Nat):Option (List Rt):=match b.getD i (-1)with
 |.ofNat k=>match s.recs[k]? with
  |some r=>mapO (fun(j:Nat)=>cK s r j r.ins ae) (List.range s.items.length)
  |none=>none
 |.negSucc _=>some (List.replicate s.items.length ae)
def zB(s)(b:List Int):matR s b=mapO (gT s b) (List.range s.items.length):=rfl
def jf{n k:Nat}(h:k<n):(List.range n)[k]? = some k:=by simp[h]
def zC(n:Nat):((List.replicate n [.bool ae.neg,.string (bs ae.n),.string (bs ae.d)]):List (List Value)).flatten=dI (List.replicate n ae):=by
 unfold dI;rw[List.map_replicate];rfl
structure MxK(N b6:Nat)(s:SrcR)(b:List Int)(W:World):Prop where
 k0:Blk W N (srcC s) 31
 k1:Blk W (N+1) (byC b) 317
 k6:Blk W b6 [.bool ae.neg,.string (bs ae.n),.string (bs ae.d)] 37
def MxK.below{N b6:Nat}{s}{b:List Int}{W W'}(h:MxK N b6 s b W)(hb:eB W W'):MxK N b6 s b W':=⟨h.k0.below hb h.k0.lt,h.k1.below hb h.k1.lt,h.k6.below hb h.k6.lt⟩
def MxK.grown{N b6 r:Nat}{s}{b:List Int}{W W'}(h:MxK N b6 s b W)(hg:W.grownBy W' (some r))(h1:N+1<r)(h2:b6<r):MxK N b6 s b W':=⟨h.k0.grown hg (fun e=>by cases e;omega),h.k1.grown hg (fun e=>by cases e;omega),h.k6.grown hg (fun e=>by cases e;omega)⟩
def IX(s)(b:List Int)(w)(hS:ap w s)(ht:TypesOk s)(hT:Tab w)(cC:b.length=32)(cD:∀x∈b,x<(s.recs.length:Int)):Calls prog 208 #[.agg (srcC s).toArray,.agg (byC b).toArray] w (ze w (matR s b)):=by
 have fQ:(srcC s).toArray.size=8:=rfl;have fe:(byC b).toArray.size=32:=by simp[byC,cC]
 have dn:Hid (∀k r,s.recs[k]? = some r->aQ w r/\im s r/\∀a∈r.ins,bM s a=true):=fun k r hr=>by
  have hm:=Oc hr;have h1:bG s r=true:=by
   have:=ht.2.2;unfold fF at this;simp only[Ob,Od]at this;exact this.2.2.2.2.1 r hm
  refine⟨hS.recv r hm,lK h1,fun a ha=>?_⟩;unfold bG at h1;simp only[Ob,Od]at h1;exact h1.2.2.1 a ha
 have eS:Hid (∀k r,s.recs[k]? = some r->∀(j:Nat) W,eB w W->Calls prog 253 #[.agg (srcC s).toArray,.agg (am r).toArray,.int .i64 (j:Int),.agg #[.bool ae.neg,.string (bs ae.n),.string (bs ae.d)]] W (Ret W (calcV (cK s r j r.ins ae)))):=fun k r hr j W hW=>by
  obtain⟨h1,h2,h3⟩:=dn.out k r hr;exact Hr s r j ae W (hS.below hW) (h1.below hW) ht.1 h2 h3 jy (hT.below hW)
 have eA:Hid (∀W,Tab W->Calls prog 33 #[.int .i64 0,.int .i64 1] W (Ret W (.tuple #[.agg #[.bool ae.neg,.string (bs ae.n),.string (bs ae.d)],.int .i64 0]))):=fun W hW=>by
  have h:=ej 0 1 W (by omega) (by omega) (by omega) hW;have e:lowR false 0 1=ae:=by simp[lowR,ae]
  rw[e]at h;exact h
 have eU:Hid (∀W,eB w W->Tab W):=fun W hW=>hT.below hW;obtain⟨A,c,ei,ef,_⟩:=hS.items;rw[N6]at ei ef;obtain⟨Ar,cr,er,eg,HR⟩:=hS.recs;rw[N6]at er eg;obtain⟨n,hn⟩:=nm s.items.length;obtain⟨rn,cm⟩:=nm s.recs.length;have fq:n<=32:=by
  have:=ht.2.1;unfold dG at this;simp only[Ob,decide_eq_true_eq]at this;rw[<-hn];exact this.1
 have ez:=MY HR;obtain⟨res,be⟩:=nm (matR s b);have bm:Hid (mapO (gT s b) (List.range n)=res):=by show _=_;rw[<-be,zB,hn]
 have bo:Hid (∀i,(∀k r,b[i]? = some ((k:Nat):Int)->s.recs[k]? = some r->gT s b i=mapO (fun(j:Nat)=>cK s r j r.ins ae) (List.range n))/\(∀x,b[i]? = some x->x<0->gT s b i=some (List.replicate n ae))):=fun i=>by
  refine⟨fun k r h1 h2=>?_,fun x h1 h2=>?_⟩
  ·unfold gT;rw[Oq,h1];show(match s.recs[k]? with|some r=>_|none=>none)=_;rw[h2,hn]
  ·unfold gT;rw[Oq,h1];obtain⟨m,rfl⟩:∃m,x=Int.negSucc m:=by cases x with|ofNat k=>exact absurd h2 (by simp)|negSucc m=>exact⟨m,rfl⟩
   show some _=_;rw[hn]
 have ex:Hid (∀x∈b,x<(rn:Int)):=by rw[cm]at cD;exact cD
 have eR:Hid (s.recs.length=rn):=cm;have ew:=MY cC;rw[hn]at ei ef;rw[cm]at er eg;rw[be];have fz:rn<=1048576:=by have:=hS.rl;unfold BIG at this;omega
 obtain⟨N,hN⟩:=nm w.heap.size;have HN:=MY hN;obtain⟨W1,cx⟩:=nm ((w.alloc (.cells (srcC s).toArray 31)).alloc (.cells (byC b).toArray 317));have K0:=Blk.new w (srcC s) 31;have K1:=Blk.new (w.alloc (.cells (srcC s).toArray 31)) (byC b) 317;rw[NU,hN]at K1;rw[hN]at K0;have K0:=K0.alloc (.cells (byC b).toArray 317);rw[cx]at K0 K1;have B1:Hid (eB w W1):=by rw[<-cx];exact((NB w.heap.size w).alloc (No _) _).alloc (by simp) _
 have K0:=MY K0;have K1:=MY K1;have EI:=MY ei;have ER:=MY er;clear hS ht hT cD be cm hn cC HR ei er;go_enter func208,ntmps208;go_wp2_with fail;refine(eA.out W1 (eU.out W1 B1.out)).mono ?_;rintro e w2 ⟨rfl,bg⟩;clear cx;obtain⟨b6,ar⟩:=nm w2.heap.size;have fs:=MY ar;obtain⟨W3,bu⟩:=nm (w2.alloc (.cells #[.bool ae.neg,.string (bs ae.n),.string (bs ae.d)] 37));have B3:Hid (eB w W3):=by rw[<-bu];exact(B1.trans (bg.mono B1.size)).alloc (Nv B1.size bg.size) _
 have K3:Hid (MxK N b6 s b W3):=by
  have e:=Blk.new w2 [.bool ae.neg,.string (bs ae.n),.string (bs ae.d)] 37;rw[ar,bu]at e;exact⟨by rw[<-bu];exact(K0.below bg K0.lt).alloc _,by rw[<-bu];exact(K1.below bg K1.lt).alloc _,e⟩
 have ba:Hid (N+1<b6):=by rw[<-ar];exact Nf K1.lt bg.size
 have x1:W3.cell? ⟨N,1,none⟩=some (.slice A n c):=by rw[<-EI.out];exact(K3.k0.at 1 _ rfl).1
 have xl:=K3.k0.lt;obtain⟨g,hg⟩:=nm W3.heap.size;have cP:=zf n (by omega) W3;rw[hg]at cP;obtain⟨W4,bv⟩:=nm (W3.alloc (.cells (Array.replicate n (.slice none 0 0)) 241));have S4:Hid (cX w g n [] [] W4):=by
  have e:=Blk.new W3 (List.replicate n (.slice none 0 0)) 241;rw[hg,OQ,bv]at e;exact⟨by rw[<-bv];exact B3.alloc B3.size _,by rw[zb];exact e,by rw[<-hg];exact B3.size,fun x h=>(by cases h),rfl,fun i x l h=>by simp at h⟩
 have K4:Hid (MxK N b6 s b W4):=by rw[<-bv];exact K3.below (ak _ _)
 have df:Hid (b6<g):=by rw[<-hg];exact K3.k6.lt
 clear bg K0 K1 B1 B3 K3;rw[bv]at cP;go_wp2_with fail;clear bu bv ar hg cP x1 xl;go_loopw [4,23] (fun v z W=>∃(i:Nat)(gs:List Nat) (rows:List (List Rt)),v=.slice g n n/\i<=n/\z=.int .i64 i/\gs.length=i/\Hid (mapO (gT s b) ((List.range n).take i)=some rows)/\Hid (cX w g n gs rows W)/\Hid (MxK N b6 s b W)) (fun _ z _=>n-(intOf z).toNat)
 case atStart=>exact⟨0,[],[],rfl,Nu _,rfl,rfl,rfl,S4.out,K4.out⟩
 case round=>
  obtain⟨i,gs,rows,rfl,hi,rfl,em,HM,S,K⟩:=hrel;clear S4 K4;have ao:=MY em;clear em;by_cases ca:i<n
  case neg=>
   obtain rfl:n=i:=by omega
   have HE:Hid (res=some rows):=by
    have:=HM.out;rw[Ny (by simp)]at this;show _=_;rw[<-bm.out,this]
   go_wp2;go_ret2;obtain⟨M,fb,fc⟩:=S.mat ao.out;refine⟨S.bl,_,0,rfl,⟨fun _=>by rw[HE.out];rfl,fun _=>rfl⟩,fun m hm=>⟨M,?_,fc⟩⟩;rw[HE.out]at hm;rw[fb];exact Option.some.inj hm
  obtain⟨x,hx⟩:=gx (l:=b) (i:=i) (by rw[ew.out];omega);have x1:wr.cell? ⟨N,1,none⟩=some (.slice A n c):=by rw[<-EI.out];exact(K.k0.at 1 _ rfl).1
  have xl:=K.k0.lt;obtain⟨gb,el⟩:=nm wr.heap.size;obtain⟨W5,cz⟩:=nm (wr.alloc (.cells #[.bool ae.neg,.string (bs ae.n),.string (bs ae.d)] 37));have e5:=Blk.new wr [.bool ae.neg,.string (bs ae.n),.string (bs ae.d)] 37;rw[el,cz]at e5;have dl:=MY (yY gb 1 n ae 37 W5 e5 (by omega));have cl:eB wr W5:=by rw[<-cz];exact ak _ _
  have S5:=MY (S.below cl);have K5:=MY (K.below cl);have eu:=MY cl;have y1:W5.cell? ⟨N,1,none⟩=some (.slice A n c):=by rw[<-EI.out];exact(K5.k0.at 1 _ rfl).1
  have yl:=K5.k0.lt;clear cl e5;go_wp2_with (refine wR 37 (ai K.k6) ?_);refine dl.mono ?_;rintro e w6 ⟨ar,x6,rfl,cn,en⟩;clear dl cz x1 xl y1 yl el;have S6:=MY (S5.below ar);have K6:=MY (K5.below ar);have ad:Hid (g<x6/\b6<x6/\(∀y∈gs,y<x6)):=⟨Nf S5.top.lt cn,Nf K5.k6.lt cn,fun y hy=>Nf (S5.lt y hy) cn⟩
  have eV:Hid (∀y∈gs,w6.heap[y]? = wr.heap[y]?):=fun y hy=>(ar.block y (S5.lt y hy)).trans (eu.block y (S.lt y hy));have cp:=MY en;obtain⟨tq,hq⟩:=gx (l:=(dh gs n)) (i:=i) (by rw[zc (by rw[ao.out];omega)];exact ca);obtain⟨q0,qf⟩:=S6.top.at i tq hq;have ql:=S6.top.lt;obtain⟨W7,ed⟩:=nm (w6.setCell ⟨g,i,none⟩ (.slice (some ⟨x6,0,none⟩) n n));have T7:Hid (Blk W7 g (dh (gs++[x6]) n) 241):=by
   have:=S6.top.set i (.slice x6 n n);rw[<-ao.out,zd (by rw[ao.out];exact ca),ao.out,ed]at this;exact this
  have bx:w6.grownBy W7 (some g):=by rw[<-ed];exact cM _ _ _ _
  have K7:Hid (MxK N b6 s b W7):=K6.grown bx (by have:=ba.out;have:=df.out;omega) df.out;have R7:Hid (Blk W7 x6 (List.replicate n [.bool ae.neg,.string (bs ae.n),.string (bs ae.d)]).flatten 37):=cp.grown bx (fun e=>by have:=ad.1;have:=Option.some.inj e;omega);have B7:Hid (eB w W7):=S6.bl.grown bx S6.bl.size (fun k e=>by cases e;exact S6.lo);have ea:Hid (∀y∈gs,W7.heap[y]? = wr.heap[y]?):=fun y hy=>(bx.block y (Nf (ad.2.2 y hy) (NS cp.lt)) (fun e=>by have:=S.hi y hy;have:=Option.some.inj e;omega)).trans (eV.out y hy);obtain⟨p1,pf⟩:=K7.k1.at i (.int .i64 x) (by unfold byC;rw[Ou,hx];rfl);have pl:=K7.k1.lt;obtain⟨fi,fl⟩:=ix (k:=i) (n:=n);have cN:(i:Int)<32:=by omega
  have dT:=MY hx;have fr:=ex.out x (Oc hx);clear ar cn en bx hx hq S5 K5 S6 K6 cp;by_cases ax:x<0
  ·have t1:decide (x<0)=true:=by simpa using ax
   have ab:=(bo.out i).2 x dT.out ax;have cq:Hid (mapO (gT s b) ((List.range n).take (i+1))=some (rows++[List.replicate n ae])):=ir (jf ca) HM.out ab;have S8:Hid (cX w g n (gs++[x6]) (rows++[List.replicate n ae]) W7):=S.next ad.1 T7.out B7.out (by have:=R7.out;rw[zC]at this;exact this) (by simp) ea.out
   clear ab ax fr;go_wp2;go_roundw
   case rel=>exact⟨i+1,gs++[x6],_,rfl,by omega,by go_num,by rw[Oe,ao.out];rfl,cq.out,S8.out,K7.out⟩
   case measure=>simp[intOf];omega
  obtain⟨kk,rfl⟩:∃k:Nat,x=(k:Int):=⟨x.toNat,by omega⟩
  have t1:decide ((kk:Int)<0)=false:=by simp
  obtain⟨r,hr⟩:=gx (l:=s.recs) (i:=kk) (by have:=eR.out;omega);obtain⟨rb,ro,rfl,cR,et⟩:=ez.out kk (am r) (by rw[Ou,hr];rfl);have ab:=MY ((bo.out i).1 kk r dT.out hr);have dk:Hid (W7.rangeAt rb (ro+kk*17) (am r)):=fun j v hv=>(B7.cell (p:=⟨rb,_,none⟩) cR).trans (et j v hv);have cw:=MY (eS.out kk r hr);have es:=io (dn.out kk r hr).1;have eD:=MY es;have z6:W7.cell? ⟨N,6,none⟩=some (.slice (some ⟨rb,ro,none⟩) rn cr):=by rw[<-ER.out];exact(K7.k0.at 6 _ rfl).1
  have zl:=K7.k0.lt;have fx:(0:Int)<=(kk:Int):=by omega
  have cb:rb<W7.heap.size:=Nf cR B7.size;obtain⟨b8,bw⟩:=nm W7.heap.size;have fv:=MY bw;obtain⟨W8,ci⟩:=nm (W7.drew.alloc (.cells (am r).toArray 55));have ag:eB W7 W8:=by rw[<-ci];exact(NB _ W7).drew.alloc (No _) _
  have K8:Hid (MxK N b6 s b W8):=K7.below ag;have R8:Hid (Blk W8 x6 (List.replicate n [.bool ae.neg,.string (bs ae.n),.string (bs ae.d)]).flatten 37):=R7.below ag R7.lt;have T8:Hid (Blk W8 g (dh (gs++[x6]) n) 241):=T7.below ag T7.lt;have B8:Hid (eB w W8):=B7.trans (ag.mono B7.size);have Q8:Hid (Blk W8 b8 (am r) 55):=by have:=Blk.new W7.drew (am r) 55;rw[ci]at this;rw[<-bw];exact this
  have eY:Hid (∀y∈gs,W8.heap[y]? = wr.heap[y]?):=fun y hy=>(ag.block y (Nat.lt_trans (ad.2.2 y hy) R7.lt)).trans (ea.out y hy);have dy:Hid (x6<b8):=by rw[<-bw];exact R7.lt
  have ds:Hid (∀o,(W7.drew.alloc o).cell? ⟨N,6,none⟩=some (.slice (some ⟨rb,ro,none⟩) rn cr)/\(W7.drew.alloc o).cell? ⟨N+1,i,none⟩=some (.int .i64 (kk:Int))/\(W7.drew.alloc o).rangeAt rb (ro+kk*17) (am r)):=fun o=>by
   have hb:eB W7 (W7.drew.alloc o):=(NB _ W7).drew.alloc (No _) _;exact⟨(hb.cell (p:=⟨N,6,none⟩) zl).trans z6,(hb.cell (p:=⟨N+1,i,none⟩) pl).trans p1,fun j v hv=>(hb.cell (p:=⟨rb,_,none⟩) cb).trans (dk.out j v hv)⟩
  clear ax hr et es cR ag B7 T7 R7 K7;go_wp2_with fail;refine aJ (S:=fun w'=>w'.cell? ⟨N,6,none⟩=some (.slice (some ⟨rb,ro,none⟩) rn cr)/\w'.cell? ⟨N+1,i,none⟩=some (.int .i64 (kk:Int))/\w'.rangeAt rb (ro+kk*17) (am r)) [0,1,2,3,4,5,6,1007,1008] ⟨z6,p1,dk.out⟩ (fun ac=>?_);repeat(first|(refine sR 55 (fun w' bc=>bc.2.2) ?_)|(refine sQ ?_)|(refine sS ?_))
  refine y8 55 17 (by kernel_rfl) rfl rfl rfl rfl rfl (.tmp 8) (.tmp 45) rfl rfl b8 bw rfl rfl (am r) rfl rfl eD.out ds.out ?_;try simp only[PT]
  refine aj ?_;rw[ci];clear ci z6 zl p1 pl pf q0 qf ql cb bw ac ds;have t8:=(T8.at i _ (tR (by rw[N5 (by rw[ao.out];exact No _),ao.out,Nat.sub_self];rfl))).1;go_wp2_with fail;have eb:Hid (b9 W8 x6 n []):=b9.new R8.out (by rw[zC,za,List.length_replicate]);clear t8;go_loopw [4,51] (fun v z W=>∃(j:Nat)(L:List Rt),v=.slice g n n/\j<=n/\z=.int .i64 j/\L.length=j/\Hid (mapO (fun(j:Nat)=>cK s r j r.ins ae) ((List.range n).take j)=some L)/\Hid (b9 W x6 n L)/\Hid (W8.grownBy W (some x6))) (fun _ z _=>n-(intOf z).toNat)
  case atStart=>exact⟨0,[],rfl,Nu _,rfl,rfl,rfl,eb.out,World.grownBy.refl _ _⟩
  case round=>
   obtain⟨j,L,rfl,hj,rfl,ec,di,RB,GW⟩:=hrel;have bk:=MY ec;clear eb ec;have GB:Hid (eB w wr):=B8.grown GW.out B8.size (fun k e=>by cases e;exact NS (Nt S.lo ad.1));have GT:Hid (Blk wr g (dh (gs++[x6]) n) 241):=T8.grown GW.out (fun e=>by have:=ad.1;have:=Option.some.inj e;omega);have GK:Hid (MxK N b6 s b wr):=K8.grown GW.out (by have:=ad.2.1;have:=ba.out;omega) ad.2.1;by_cases bh:j<n
   case neg=>
    obtain rfl:n=j:=by omega
    have bp:Hid (gT s b i=some L):=by
     have:=di.out;rw[Ny (by simp)]at this;show _=_;rw[ab.out,this]
    have cq:Hid (mapO (gT s b) ((List.range n).take (i+1))=some (rows++[L])):=ir (jf ca) HM.out bp.out;have S9:Hid (cX w g n (gs++[x6]) (rows++[L]) wr):=S.next ad.1 GT.out GB.out (RB.done bk.out) bk.out (fun y hy=>(GW.block y (Nat.lt_trans (ad.2.2 y hy) R8.lt) (fun e=>by have:=ad.2.2 y hy;have:=Option.some.inj e;omega)).trans (eY.out y hy))
    go_wp2_with fail;refine⟨⟨i+1,gs++[x6],_,rfl,by omega,by go_num,by rw[Oe,ao.out];rfl,cq.out,S9.out,GK.out⟩,?_⟩;simp[intOf];omega
   have t8:=(GT.at i _ (tR (by rw[N5 (by rw[ao.out];exact No _),ao.out,Nat.sub_self];rfl))).1;have GQ:Hid (Blk wr b8 (am r) 55):=Q8.grown GW.out (fun e=>by have:=dy.out;have:=Option.some.inj e;omega);obtain⟨fn,fo⟩:=ix (k:=j) (n:=n);have an:=MY (cw.out j wr.drew GB.drew);obtain⟨so,db⟩:=nm (cK s r (j:Int) r.ins ae);have dr:=MY db;rw[db]at an;clear db;have dv:Hid (∀V,eB wr V->V.cell? ⟨g,i,none⟩=some (.slice x6 n n)/\Blk V N (srcC s) 31/\Blk V b8 (am r) 55/\Blk V b6 [.bool ae.neg,.string (bs ae.n),.string (bs ae.d)] 37):=fun V hV=>⟨(hV.cell (p:=⟨g,i,none⟩) GT.lt).trans t8,GK.k0.below hV GK.k0.lt,GQ.below hV GQ.lt,GK.k6.below hV GK.k6.lt⟩
   go_wp2_with fail;refine aJ (S:=fun w'=>w'.cell? ⟨g,i,none⟩=some (.slice x6 n n)/\Blk w' N (srcC s) 31/\Blk w' b8 (am r) 55/\Blk w' b6 [.bool ae.neg,.string (bs ae.n),.string (bs ae.d)] 37) [0,1,2,3,4,5,6,7,8,1009,10,11,12,13,1014,15] (dv.out _ (NB _ wr).drew) (fun ac=>?_);repeat(first|(refine sR 31 (fun w' bc=>ai bc.2.1) ?_)|(refine sR 55 (fun w' bc=>ai bc.2.2.1) ?_)|(refine sR 37 (fun w' bc=>ai bc.2.2.2) ?_)|(refine sQ ?_)|(refine sS ?_))
   refine az fun K hK=>?_;go_simp;refine an.mono ?_;rintro e w9 ⟨rfl,ee⟩;have av:eB wr w9:=(NB _ wr).drew.trans ee;have bt:=MY (RB.below av);have dd:Hid (W8.grownBy w9 (some x6)):=fO GW.out (du av _);have bb:=MY (dv.out w9 av);obtain⟨gg,sn,sd,ev,ep,eo⟩:∃(g:Bool)(sn sd:ByteArray) (ev:Int),calcV so=.tuple #[.agg #[.bool g,.string sn,.string sd],.int .i64 ev]/\((so=none/\ev=2)\/(∃x,so=some x/\ev=0/\g=x.neg/\sn=bs x.n/\sd=bs x.d)):=by
    cases so with
    |none=>exact⟨_,_,_,_,rfl,Or.inl ⟨rfl,rfl⟩⟩
    |some x=>exact⟨_,_,_,_,rfl,Or.inr ⟨x,rfl,rfl,rfl,rfl,rfl⟩⟩
   have eC:=MY eo;rw[ep];obtain⟨v0,c0,f0,l0⟩:=bt.cells bh 0 (by omega);obtain⟨v1,c1,f1,_⟩:=bt.cells bh 1 (by omega);obtain⟨v2,c2,f2,_⟩:=bt.cells bh 2 (by omega);rw[Na]at c0 f0;have ch:x6≠g:=by have:=ad.1;omega
   have cf:x6≠N:=by have:=ad.2.1;have:=ba.out;omega
   have cc:x6≠b6:=by have:=ad.2.1;omega
   have cd:x6≠b8:=by have:=dy.out;omega
   obtain⟨aA,bd⟩:=nm (((w9.setCell ⟨x6,j*3,none⟩ (.bool gg)).setCell ⟨x6,j*3+1,none⟩ (.string sn)).setCell ⟨x6,j*3+2,none⟩ (.string sd));have al:w9.grownBy aA (some x6):=by rw[<-bd];exact fO (fO (cM _ _ _ _) (cM _ _ _ _)) (cM _ _ _ _)
   have cu:Hid (aA.cell? ⟨g,i,none⟩=some (.slice x6 n n)/\Blk aA N (srcC s) 31/\Blk aA b8 (am r) 55/\Blk aA b6 [.bool ae.neg,.string (bs ae.n),.string (bs ae.d)] 37):=⟨al.cell (a:=⟨g,i,none⟩) bb.1 (fun e=>ch (Option.some.inj e).symm),bb.2.1.grown al (fun e=>cf (Option.some.inj e).symm),bb.2.2.1.grown al (fun e=>cd (Option.some.inj e).symm),bb.2.2.2.grown al (fun e=>cc (Option.some.inj e).symm)⟩
   have bi:Hid (W8.grownBy aA (some x6)):=fO dd.out al;have br:Hid (∀x:Rt,gg=x.neg->sn=bs x.n->sd=bs x.d->b9 aA x6 n (L++[x])):=fun x e1 e2 e3=>by
    have:=bt.put (by rw[bk.out];exact bh) x;rw[bk.out,<-e1,<-e2,<-e3,bd]at this;exact this
   have cv:=bb.1;clear ep eo ee av al t8 an ch cf cc cd;go_wp2_with fail;refine hG hK (by exact bb.out) fun ac=>?_;clear hK K;repeat refine ay ?_
   refine az fun K hK=>?_;go_simp;refine hG hK (by exact cu.out) fun ac=>?_;clear hK K;repeat refine ay ?_
   refine aj ?_;clear bd c0 c1 c2 f0 f1 f2 l0 cv ac bb bt dd;rcases eC.out with⟨rfl,rfl⟩|⟨x,rfl,rfl,e1,e2,e3⟩
   ·have bn:Hid (res=none):=by
     have h1:mapO (fun(j:Nat)=>cK s r j r.ins ae) (List.range n)=none:=iw (jf bh) dr.out;show _=_;rw[<-bm.out];exact iw (jf ca) (by rw[ab.out];exact h1)
    have co:Hid (eB w aA):=B8.grown bi.out B8.size (fun k e=>by cases e;exact NS (Nt S.lo ad.1));clear fn fo fi fl cN;go_wp2;go_ret2;refine⟨co.out,_,2,rfl,⟨fun h=>absurd h (by decide),fun h=>?_⟩,fun m hm=>?_⟩
    ·rw[bn.out]at h;cases h
    ·rw[bn.out]at hm;cases hm
   ·have eP:=MY (br.out x e1 e2 e3);have cs:Hid (mapO (fun(j:Nat)=>cK s r j r.ins ae) ((List.range n).take (j+1))=some (L++[x])):=ir (jf bh) di.out dr.out;clear e1 e2 e3 br;go_wp2_with fail;refine⟨⟨j+1,L++[x],rfl,by omega,by go_num,by rw[Oe,bk.out];rfl,cs.out,eP.out,bi.out⟩,?_⟩;simp[intOf];omega
def IY(plant day:Int)(c:List Int)(st:List Int×Bool)(rn:RecR×Nat):(gM plant day c st rn).1.length=st.1.length:=by
 unfold gM;split <;> simp
def dL(s:SrcR)(plant day:Int)(c:List Int)(k:Nat):List Int×Bool:=(s.recs.zipIdx.take k).foldl (gM plant day c) (List.replicate 32 (-1),false)
def uc{s:SrcR}{plant day:Int}{c:List Int}{k:Nat}{r}(h:s.recs[k]? = some r):dL s plant day c (k+1)=gM plant day c (dL s plant day c k) (r,k):=by
 unfold dL;rw[Ox,List.getElem?_zipIdx,h];simp
def ue(s:SrcR)(plant day:Int)(c:List Int):∀k,k<=s.recs.length->(dL s plant day c k).1.length=32
 |0,_=>by simp[dL]
 |k+1,hk=>by
  rw[uc (Nx (show k<s.recs.length by omega)),IY];exact ue s plant day c k (by omega)
def uf(s)(plant day:Int)(c:List Int):dL s plant day c s.recs.length=byR s plant day c:=by
 unfold dL byR;rw[Ny (by rw[List.length_zipIdx];exact No _)]
def zD(s)(plant day:Int)(c:List Int):(byR s plant day c).1.length=32:=by rw[<-uf];exact ue _ _ _ _ _ (No _)
def ug(s:SrcR)(plant day:Int)(c:List Int):∀k,k<=s.recs.length->∀x∈(dL s plant day c k).1,x<(s.recs.length:Int)
 |0,_,x,hx=>by
  have:=List.eq_of_mem_replicate (show x∈List.replicate 32 (-1:Int)from hx);omega
 |k+1,hk,x,hx=>by
  rw[uc (Nx (show k<s.recs.length by omega))]at hx;unfold gM at hx;split at hx
  ·rcases List.mem_or_eq_of_mem_set hx with h|rfl
   ·exact ug s plant day c k (by omega) x h
   ·omega
  ·exact ug s plant day c k (by omega) x hx
def IZ(s)(plant day:Int)(c:List Int):∀x∈(byR s plant day c).1,x<(s.recs.length:Int):=by rw[<-uf];exact ug _ _ _ _ _ (No _)
def uh{l:List Int}{i:Nat}{x:Int}(h:l[i]? = some x):(byC l)[i]? = some (.int .i64 x):=by unfold byC;rw[Ou,h];rfl
def qI(l:List Int):(byC l).length=l.length:=by simp[byC]
def qJ(l:List Int):((byC l).all fun v=>v.oneCell')=true:=by
 rw[Od];intro v hv;obtain⟨x,_,rfl⟩:=OE.1 hv;rfl
def zE(l:List Int)(i:Nat)(x:Int):(byC l).set i (.int .i64 x)=byC (l.set i x):=by unfold byC;rw[List.map_set]
def I0(i:Nat)(hi:i<32):(List.replicate i (-1:Int)++List.replicate (32-i) 0).set i (-1)=List.replicate (i+1) (-1)++List.replicate (32-(i+1)) 0:=by
 obtain⟨m,hm⟩:∃m,32-i=m+1:=⟨31-i,by omega⟩
 rw[hm,Oy _ _ (by simp),List.length_replicate,Nat.sub_self,List.replicate_succ,OB,List.replicate_succ',show 32-(i+1)=m by omega];simp
def zF(w:World)(st:List Int×Bool)(e:Ending)(w':World):Prop:=e=.returned (.tuple #[.agg (byC st.1).toArray,.bool st.2])/\eB w w'
def I8{P}{f:Func}{s t:Nat}{T}{A:Addr}{u v}{W}{tmps:Array Value}(hr:f.results=#[.cell s T,.tmp t])(hs:tmps.getD s undef=.pointer (some A))(ht:tmps.getD t undef=u)(hv:(loadVar T A).run P W=.ok v W):(results f tmps).run P W=.ok (.tuple #[v,u]) W:=by
 rw[Ow]at hs ht;simp[results,hr,hs,ht,hv,asAddr]
def Ja(b:Nat)(W)(tmps:Array Value)(l:List Int)(x:Bool)(h8:tmps.getD 8 undef=.pointer b)(h9:tmps.getD 9 undef=.bool x)(K:Blk W b (byC l) 317)(hl:l.length=32) :(results Tryz.f207 tmps).run prog W=.ok (.tuple #[.agg (byC l).toArray,.bool x]) W:=by
 have hT:bW prog 317 32=true:=by kernel_rfl
 obtain⟨d,hu,hd⟩:=jw hT;exact I8 results207 h8 h9 (run_loadVar_mid W b 0 317 (byC l) d (ai K) hu hd (by rw[eQ hT];simp[byC,hl]))
def Jb(s)(plant day:Int)(cv)(c:List Int)(w)(hS:ap w s)(ht:TypesOk s)(hc:RowC w 1 cv (c.map af))(cN:c.length=s.opts.length):Calls prog 207 #[.agg (srcC s).toArray,.int .i64 plant,.int .i64 day,cv] w (zF w (byR s plant day c)):=by
 have dd:(srcC s).toArray.size=8:=rfl;have ar:=ht.2.2;have bv:=ht.2.1;unfold fF at ar;unfold dG at bv;simp only[Ob,Od,decide_eq_true_eq]at ar bv;have co:c.length<=1048576:=by omega
 have cf:Hid (∀k r,s.recs[k]? = some r->aQ w r/\∃i:Nat,r.itemNo=(i:Int)/\i<32):=fun k r hr=>by
  have hm:=Oc hr;have h1:=ar.2.2.2.2.1 r hm;unfold bG at h1;simp only[Ob,aZ,decide_eq_true_eq]at h1;exact⟨hS.recv r hm,r.itemNo.toNat,by omega,by omega⟩
 have ax:Hid (∀k r,s.recs[k]? = some r->∀W,eB w W->Calls prog 251 #[.agg (am r).toArray,.int .i64 day,cv] W (Ret W (.bool (nS r day c)))):=fun k r hr W hW=>by
  have hm:=Oc hr;have h1:=ar.2.2.2.2.1 r hm;refine Hk r day cv c W ((hS.recv r hm).below hW) (hc.below hW) co fun x hx=>?_;unfold bG ic lC at h1;simp only[Ob,Od,aZ,decide_eq_true_eq]at h1;have:=(h1.2.1.1 x hx).1;omega
 have bw:Hid (∀k r,s.recs[k]? = some r->∀W,eB w W->Calls prog 247 #[.agg (am r).toArray] W (Ret W (.bool (fM r)))):=fun k r hr W hW=>yM r W ((hS.recv r (Oc hr)).below hW);obtain⟨Ac,cc,rfl⟩:=hc.len;rw[N6]at ax⊢;obtain⟨cn,cp⟩:=nm c.length;rw[cp]at ax⊢;obtain⟨Ar,cr,er,bs,HR⟩:=hS.recs;rw[N6]at er bs;obtain⟨n,hn⟩:=nm s.recs.length;have bx:=MY HR;have HN:=MY hn;have cw:n<=64:=by omega
 rw[hn]at er bs;have HF:Hid (dL s plant day c n=byR s plant day c):=by rw[<-hn];exact uf s plant day c
 have cb:Hid (∀k,k<=n->(dL s plant day c k).1.length=32):=fun k hk=>ue s plant day c k (by omega);obtain⟨res,bk⟩:=nm (byR s plant day c);rw[bk]at HF⊢;obtain⟨N,hN⟩:=nm w.heap.size;have bc:=MY hN;have e0:(byC (List.replicate 32 0)).toArray=#[.int .i64 0,.int .i64 0,.int .i64 0,.int .i64 0,.int .i64 0,.int .i64 0,.int .i64 0,.int .i64 0,.int .i64 0,.int .i64 0,.int .i64 0,.int .i64 0,.int .i64 0,.int .i64 0,.int .i64 0,.int .i64 0,.int .i64 0,.int .i64 0,.int .i64 0,.int .i64 0,.int .i64 0,.int .i64 0,.int .i64 0,.int .i64 0,.int .i64 0,.int .i64 0,.int .i64 0,.int .i64 0,.int .i64 0,.int .i64 0,.int .i64 0,.int .i64 0]:=rfl;obtain⟨W1,an⟩:=nm ((w.alloc (.cells (srcC s).toArray 31)).alloc (.cells (byC (List.replicate 32 0)).toArray 317));have K0:=Blk.new w (srcC s) 31;have K1:=Blk.new (w.alloc (.cells (srcC s).toArray 31)) (byC (List.replicate 32 0)) 317;rw[NU,hN,an]at K1;rw[hN]at K0;have K0:=K0.alloc (.cells (byC (List.replicate 32 0)).toArray 317);rw[an]at K0;have B1:Hid (eB w W1):=by rw[<-an];exact((NB w.heap.size w).alloc (No _) _).alloc (by simp) _
 have K0:=MY K0;have K1:=MY K1;rw[e0]at an;go_enter func207,ntmps207;go_wp2_with fail;go_loopw [13] (fun z W=>∃i:Nat,i<=32/\z=.int .i64 i/\Hid (Blk W (N+1) (byC (List.replicate i (-1)++List.replicate (32-i) 0)) 317)/\Hid (Blk W N (srcC s) 31)/\Hid (eB w W)) (fun z _=>32-(intOf z).toNat)
 case atStart=>
  first
   |exact⟨0,Nu _,rfl,K1.out,K0.out,B1.out⟩
   |(rw[an];exact⟨0,Nu _,rfl,K1.out,K0.out,B1.out⟩)
 case round=>
  obtain⟨i,hi,rfl,K1,K0,B⟩:=hrel;by_cases cu:i<32
  case pos=>
   obtain⟨x,hx⟩:∃x,(List.replicate i (-1:Int)++List.replicate (32-i) 0)[i]? = some x:=⟨_,Nx (by simp;omega)⟩
   obtain⟨q0,qf⟩:=K1.at i _ (uh hx);have ql:=K1.lt;have cq:(0:Int)<=(i:Int):=by omega
   have cs:(i:Int)<32:=by omega
   obtain⟨W2,ad⟩:=nm (wr.setCell ⟨N+1,i,none⟩ (.int .i64 (-1)));have cl:Hid (Blk W2 (N+1) (byC (List.replicate (i+1) (-1)++List.replicate (32-(i+1)) 0)) 317):=by
    have:=K1.set i (.int .i64 (-1));rw[zE,I0 i cu,ad]at this;exact this
   have ci:Hid (Blk W2 N (srcC s) 31):=by rw[<-ad];exact K0.other (by omega) _
   have B2:Hid (eB w W2):=by rw[<-ad];exact B.setCell (p:=⟨N+1,i,none⟩) (by rw[bc.out];show N<=N+1;omega) _
   go_wp2_with fail;refine⟨⟨i+1,by omega,by go_num,cl.out,ci.out,B2.out⟩,?_⟩;simp[intOf];omega
  obtain rfl:i=32:=by omega
  have S0:Hid (dL s plant day c 0=(List.replicate 32 (-1),false)):=rfl;have q6:wr.cell? ⟨N,6,none⟩=some (.slice Ar n cr):=by rw[<-er];exact(K0.at 6 _ rfl).1
  have ql:=K0.lt;have cx:¬((32:Int)<32):=by omega
  go_wp2_with fail;go_loopw [9,22] (fun v z W=>∃(k:Nat)(l:List Int) (x:Bool),k<=n/\v=.bool x/\z=.int .i64 k/\Hid (dL s plant day c k=(l,x))/\Hid (Blk W (N+1) (byC l) 317)/\Hid (eB w W)) (fun _ z _=>n-(intOf z).toNat)
  case atStart=>exact⟨0,_,_,Nu _,rfl,rfl,S0.out,K1.out,B.out⟩
  case round=>
   obtain⟨k,l,x,hk,rfl,rfl,HT,K,B⟩:=hrel;have ag:Hid (l.length=32):=by
    have:=cb.out k hk;rw[HT.out]at this;exact this
   by_cases db:k<n
   case neg=>
    obtain rfl:n=k:=by omega
    have HE:Hid (res=(l,x)):=HF.symm.trans HT.out;have df:(byC l).toArray.size=32:=by simp[byC,ag.out]
    go_wp2_with (first|(refine sa 317 32 (by kernel_rfl) rfl (.tmp 8) rfl (N+1) 0 rfl (byC l) (by rw[qI];exact ag.out) (ai K.out) ?_)|(refine eT 317 32 (by kernel_rfl) rfl (.tmp 8) (.tmp 54) rfl rfl (N+1) rfl (byC l) rfl (byC l) 317 K.out (by rw[qI];exact ag.out) (by rw[qI];exact ag.out) (qJ l) (fun w2 bu bt=>?_);have K2:=MY bu;have G2:=MY bt;clear bu bt));exact bodyPost_ret (Ja (N+1) _ _ l x rfl rfl K2.out ag.out) rfl ⟨by rw[HE.out],B.grown G2.out B.size (fun k e=>by cases e;rw[bc.out];omega)⟩
   obtain⟨r,hr⟩:=gx (l:=s.recs) (i:=k) (by have:=HN.out;omega);obtain⟨cC,i,bi,bh⟩:=cf.out k r hr;obtain⟨bb,off,rfl,cm,hc⟩:=bx.out k (am r) (by rw[Ou,hr];rfl);have ca:Hid (wr.rangeAt bb (off+k*17) (am r)):=fun j u hu=>(B.cell (p:=⟨bb,_,none⟩) cm).trans (hc j u hu);have cz:=io cC;have cd:=MY cz;obtain⟨xb,bl⟩:=nm wr.heap.size;obtain⟨W2,ad⟩:=nm (wr.alloc (.cells (am r).toArray 55));have X2:=Blk.new wr (am r) 55;rw[bl,ad]at X2;have B2:Hid (eB w W2):=by rw[<-ad];exact B.alloc B.size _
   have K2:Hid (Blk W2 (N+1) (byC l) 317):=by rw[<-ad];exact K.alloc _
   have ch:Hid (N+1<xb):=by rw[<-bl];exact K.lt
   have ao:Hid (dL s plant day c (k+1)=gM plant day c (l,x) (r,k)):=by show _=_;rw[uc hr,HT.out]
   have aA:=MY (ax.out k r hr);have ba:=MY (bw.out k r hr);obtain⟨z,hz⟩:=gx (l:=l) (i:=i) (by rw[ag.out];exact bh);have HZ:=MY hz;have di:=(X2.at 16 _ rfl).1;have cD:W2.cell? ⟨xb,15,none⟩=some (.int .i64 (i:Int)):=by rw[<-bi];exact(X2.at 15 _ rfl).1
   have xl:=X2.lt;have k0:=(K2.at i _ (uh hz)).1;have kl:=K2.lt;have bd:=MY X2;have bo:=MY bi;obtain⟨cq,cs⟩:=ix (k:=k) (n:=n);have cP:(0:Int)<=(i:Int):=by omega
   have cR:(i:Int)<32:=by omega
   have bn:Hid (l.getD r.itemNo.toNat 0=z):=by show _=_;rw[bi,NI,Oq,hz];rfl
   go_upto_region 9 with(first|(refine wR 55 ca.out ?_)|(refine wA bl (.int .i64 (k:Int)) cd.out ?_))
   change Code.wp _ _ _ _ (wr.alloc (.cells (am r).toArray 55));rw[ad];simp only[PT];by_cases hp:r.plantNo=plant
   case neg=>
    have t1:(r.plantNo==plant)=false:=by simpa using hp
    have ac:Hid (dL s plant day c (k+1)=(l,x)):=by show _=_;rw[ao.out];unfold gM;rw[if_neg (fun h=>hp h.1)]
    go_wp2_with fail;refine⟨⟨k+1,l,x,by omega,rfl,by go_num,ac.out,K2.out,B2.out⟩,?_⟩;simp[intOf];omega
   have t1:(r.plantNo==plant)=true:=by simpa using hp
   by_cases av:z<0
   case neg=>
    have t2:decide (z<0)=false:=by simpa using av
    have ac:Hid (dL s plant day c (k+1)=(l,x)):=by show _=_;rw[ao.out];unfold gM;rw[if_neg (fun h=>av (by have:=h.2.1;simp only at this;rwa[bn.out]at this))]
    go_wp2_with fail;refine⟨⟨k+1,l,x,by omega,rfl,by go_num,ac.out,K2.out,B2.out⟩,?_⟩;simp[intOf];omega
   have t2:decide (z<0)=true:=by simpa using av
   obtain⟨ab,bp⟩:=nm (nS r day c);have bm:=MY bp;have al:=MY (aA.out W2 B2.out);rw[bp]at al;go_wp2_with (refine wG 55 (ai bd.out) ?_);refine al.mono ?_;rintro e w3 ⟨rfl,bg⟩;have B3:=MY (B2.trans (bg.mono B2.size));have K3:=MY (K2.below bg K2.lt);have X3:=MY (bd.below bg bd.lt)
   cases ab with
   |false=>
    have ac:Hid (dL s plant day c (k+1)=(l,x)):=by show _=_;rw[ao.out];unfold gM;rw[if_neg (fun h=>by have:=h.2.2;rw[bm.out]at this;cases this)]
    go_wp2_with fail
    refine⟨⟨k+1,l,x,by omega,rfl,by go_num,ac.out,K3.out,B3.out⟩,?_⟩
    simp[intOf];omega
   |true=>
    have ac:Hid (dL s plant day c (k+1)=(l.set i (k:Int),x||fM r)):=by
     show _=_;rw[ao.out];unfold gM;rw[if_pos ⟨hp,by simp only;rw[bn.out];exact av,bm.out⟩,bo.out];rfl
    have cD:w3.cell? ⟨xb,15,none⟩=some (.int .i64 (i:Int)):=by rw[<-bo.out];exact(X3.at 15 _ rfl).1
    have xl:=X3.lt
    obtain⟨k0,kf⟩:=K3.at i _ (uh HZ.out)
    have kl:=K3.lt
    obtain⟨W4,be⟩:=nm (w3.setCell ⟨N+1,i,none⟩ (.int .i64 (k:Int)))
    have K4:Hid (Blk W4 (N+1) (byC (l.set i (k:Int))) 317):=by
     have:=K3.set i (.int .i64 (k:Int));rw[zE,be]at this;exact this
    have X4:Hid (Blk W4 xb (am r) 55):=by rw[<-be];exact X3.other (by have:=ch.out;omega) _
    have B4:Hid (eB w W4):=by rw[<-be];exact B3.setCell (p:=⟨N+1,i,none⟩) (by rw[bc.out];show N<=N+1;omega) _
    cases x with
    |true=>
     go_wp2_with fail
     refine⟨⟨k+1,_,true,by omega,rfl,by go_num,ac.out,K4.out,B4.out⟩,?_⟩
     simp[intOf];omega
    |false=>
     obtain⟨y,hy⟩:=nm (fM r)
     have HH:=MY (ba.out W4 B4.out)
     rw[hy]at HH ac
     rw[Bool.false_or]at ac
     go_wp2_with (refine wG 55 (ai X4.out) ?_)
     refine HH.mono ?_
     rintro e w5 ⟨rfl,br⟩
     have B5:=MY (B4.trans (br.mono B4.size))
     have K5:=MY (K4.below br K4.lt)
     go_wp2_with fail
     refine⟨⟨k+1,_,y,by omega,rfl,by go_num,ac.out,K5.out,B5.out⟩,?_⟩
     simp[intOf];omega
namespace Bf
open Go.Shelf
def Tryz.laysDF_ren:Go.Shelf.Ren:=⟨fun|10=>248|6=>273|n=>n,fun|22=>32|23=>3|25=>221|3=>3|4=>4|0=>0|n=>n,fun|n=>n⟩
def Tryz.laysDF:Go.Proofs.SlLaysH.n10 prog Tryz.laysDF_ren:={mixed:=by kernel_rfl,f6:=⟨Tryz.f273.name,by decide,func273.trans (congrArg some (by kernel_rfl))⟩,f10:=⟨Tryz.f248.name,by decide,func248.trans (congrArg some (by kernel_rfl))⟩,t0:=underlying0,a0:=Tryz.isAgg0,z0:=Tryz.sizeOf0,v0:=Tryz.zeroValue0,t3:=underlying3,a3:=Tryz.isAgg3,z3:=Tryz.sizeOf3,v3:=Tryz.zeroValue3,t4:=underlying4,a4:=Tryz.isAgg4,z4:=Tryz.sizeOf4,v4:=Tryz.zeroValue4,t22:=underlying32,a22:=Tryz.isAgg32,z22:=Tryz.sizeOf32,v22:=Tryz.zeroValue32,a23:=Tryz.isAgg3,z23:=Tryz.sizeOf3,t25:=underlying221,a25:=Tryz.isAgg221,z25:=Tryz.sizeOf221,v25:=Tryz.zeroValue221}
end Bf
section
open Go.Sort
def JB(zs:List Int)(d:Int):d∈Lib.compact zs<->d∈zs:=by
 unfold Lib.compact Lib.compactUpTo;rw[OE];have ab:∀j,j<zs.length->zs.toArray[j]! ∈ zs:=fun j hj=>by
  rw[getElem!_pos zs.toArray j (by simpa using hj)];simp
 constructor
 ·rintro⟨j,hj,rfl⟩;exact ab j (OH.1 (List.mem_filter.1 hj).1)
 ·intro hd;obtain⟨j,hj,rfl⟩:=List.getElem_of_mem hd;have key:∀j,j<zs.length->∃k,k<zs.length/\Lib.keeps zs.toArray k=true/\zs.toArray[k]! = zs.toArray[j]! :=by
   intro j;induction j with
   |zero=>intro h;exact⟨0,h,Lib.keeps_lt_one _ 0 (by omega),rfl⟩
   |succ j ih=>
    intro h
    by_cases e:zs.toArray[j+1]! = zs.toArray[j]!
    ·obtain⟨k,h1,h2,h3⟩:=ih (by omega)
     exact⟨k,h1,h2,h3.trans e.symm⟩
    ·exact⟨j+1,h,Lib.keeps_pos e,rfl⟩
  obtain⟨k,h1,h2,h3⟩:=key j hj;refine⟨k,List.mem_filter.2 ⟨OH.2 h1,h2⟩,?_⟩;rw[h3,getElem!_pos zs.toArray j (by simpa using hj)];simp
def JC{w}{g cap:Nat}{zs:List Int}(h:Holds (Value.int .i64) w g 0 zs.toArray)(ac:g<w.heap.size)(hc:zs.length<=cap):RowC w 1 (.slice g zs.length cap) (zs.map af):=by
 refine⟨_,cap,by rw[N6],by rw[N6];exact hc,fun i cs hi=>⟨g,0,rfl,ac,fun j x hx=>?_⟩⟩;rw[Ou]at hi;obtain⟨y,hy,rfl⟩:=Option.map_eq_some_iff.1 hi;obtain⟨ab,rfl⟩:=NQ.1 hy
 cases j with
 |zero=>
  cases hx
  have:=(h i (by simpa using ab)).1
  rw[getElem!_pos zs.toArray i (by simpa using ab)]at this
  simpa using this
 |succ j=>simp[af]at hx
def JD{w}{g:Nat}{zs rest:List Int}(h:Holds (Value.int .i64) w g 0 (zs++rest).toArray):Holds (Value.int .i64) w g 0 zs.toArray:=fun j hj=>by
 have ab:j<zs.length:=by simpa using hj
 have:=h j (by simp;omega);rw[getElem!_pos (zs++rest).toArray j (by simp;omega)]at this;rw[getElem!_pos zs.toArray j hj];simpa[List.getElem_append_left ab]using this
def zN(x:Int)(W:World):FnGives prog 249 #[] #[.int .i64 x] (.bool (decide (1024<=x))) W:=by
 show Calls prog 249 #[.int .i64 x] W _;go_enter func249,ntmps249;go_wp2;all_goals (go_ret;exact⟨by simp_all,0,rfl⟩)
structure kI(w:World)(g cap:Nat)(zs:List Int):Prop where
 h:Holds (Value.int .i64) w g 0 zs.toArray
 lt:g<w.heap.size
 le:zs.length<=cap
def qM(w:World)(g cap:Nat)(zs:List Int)(w':World):Prop:=kI w' g cap zs/\w.grownBy w' (some g)
def kI.put{w}{g cap:Nat}{zs ys rest:List Int}(H:kI w g cap zs)(n:Nat)(os:Array Obj)(hl:(ys++rest).length=zs.length):qM w g cap ys (grow (putRow (Value.int .i64) (Sort.ahead w n) g 0 (ys++rest).toArray) os):=by
 have h1:Holds (Value.int .i64) (putRow (Value.int .i64) (Sort.ahead w n) g 0 (ys++rest).toArray) g 0 (ys++rest).toArray:=holds_putRow _ _ g 0 zs.toArray _ (holds_ahead _ w n g 0 _ H.h) (by simpa using hl);have ac:g<(putRow (Value.int .i64) (Sort.ahead w n) g 0 (ys++rest).toArray).heap.size:=by rw[size_putRow];exact H.lt
 have ab:=H.le;rw[<-hl,Oe]at ab;exact⟨⟨JD (holds_grow _ _ _ _ _ _ ac h1),by simp only[grow,Array.size_append];omega,by omega⟩,grownBy_sortedI _⟩
def JE(p:Int->Bool)(zs:List Int):(zs.filter p++List.replicate (zs.length-(zs.filter p).length) (0:Int)).length=zs.length:=by
 have:=List.length_filter_le p zs;rw[Oe,List.length_replicate];omega
def zO(zs:List Int):(Lib.compact zs).length<=zs.length:=by
 unfold Lib.compact Lib.compactUpTo;rw[N6];refine Nv (List.length_filter_le _ _) (by rw[N7];exact No _)
def JF{w}{g cap n:Nat}{zs:List Int}(H:kI w g cap zs)(hl:zs.length=n)(hn:n<=1000000) :Calls prog 248 #[.slice g n cap,.func (.func 249) #[] #[]] w fun e w'=>e=.returned (.slice g (zs.filter fun x=> !decide (1024<=x)).length cap)/\qM w g cap (zs.filter fun x=> !decide (1024<=x)) w':=by
 subst hl;have h:=AnyE.slices_DeleteFunc Tryz.laysDF (Value.int .i64) (fun _=>rfl) (fun x=>decide (1024<=x)) 249 #[] (enters_of func249 (by kernel_rfl) rfl) 0 Tryz.zeroValue3 g 0 cap zs.toArray w (fun W x _=>zN x W) (fun n os dk x _=>zN x _) H.h (by simp;omega) (by simpa using H.le);simp only[NV]at h;refine h.mono ?_;rintro e w' ⟨rfl,q,rfl⟩;refine⟨rfl,?_⟩;have:=H.put (ys:=zs.filter fun x=> !decide (1024<=x)) q #[] (JE _ zs);rwa[grow_empty]at this
def JG{w}{g cap n:Nat}{zs:List Int}(H:kI w g cap zs)(hl:zs.length=n)(hn:n<=1000000) :Calls prog 242 #[.slice g n cap] w fun e w'=>e=.returned (.tuple #[])/\qM w g cap (zs.mergeSort fun x y=>decide (x<=y)) w':=by
 subst hl;refine(Tryz.slices_Sort_int g 0 cap zs w H.h H.lt (by omega)).mono ?_;rintro e w' ⟨rfl,n,os,rfl⟩;refine⟨rfl,?_⟩;have:=H.put (ys:=zs.mergeSort fun x y=>decide (x<=y)) (rest:=[]) n os (by simp);rwa[Oz]at this
def JH{w}{g cap n:Nat}{zs:List Int}(H:kI w g cap zs)(hl:zs.length=n)(hn:n<=1000000) :Calls prog 250 #[.slice g n cap] w fun e w'=>e=.returned (.slice g (Lib.compact zs).length cap)/\qM w g cap (Lib.compact zs) w':=by
 subst hl;refine(Tryz.slices_Compact_int g 0 cap zs w H.h (by omega) H.le).mono ?_;rintro e w' ⟨rfl,q,rfl⟩;refine⟨rfl,?_⟩;have:=H.put (ys:=Lib.compact zs) (rest:=List.replicate (zs.length-(Lib.compact zs).length) 0) q #[] (by have:=zO zs;rw[Oe,List.length_replicate];omega);rwa[grow_empty]at this
def JI{w}{B:Nat}{v}{zs:List Int}(h:aa w B 3 1 v (zs.map af))(hz:zs≠[]):∃g cap,v=.slice (some ⟨g,0,none⟩) zs.length cap/\B<=g/\kI w g cap zs:=by
 obtain⟨⟨h1,h2⟩,h3⟩:=h;rcases h2 with⟨rfl,h0⟩|⟨g,cap,cur,rfl,hg,hc,hn,ac,ad,ab⟩
 ·rw[N6]at h0;exact absurd (Nb h0) hz
 ·rw[show(zs.map af).flatten=zs.map (Value.int .i64)from un zs]at ab;rw[N6]at hn ab⊢;rw[Ov]at ab;exact⟨g,cap,rfl,hg,holds_of_blockI hc ab,(NX.1 hc).1,hn⟩
def bT(s:SrcR)(plant:Int)(k:Nat):List Int:=(s.recs.take k).flatMap fun r=>if r.plantNo=plant then [r.frm,r.til]else []
def kJ(s:SrcR)(plant:Int)(k:Nat):Bool:=(s.recs.take k).any fun r=>decide (r.plantNo=plant)&&fM r
def JK{s:SrcR}{plant:Int}{k:Nat}{r}(h:s.recs[k]? = some r):bT s plant (k+1)=bT s plant k++if r.plantNo=plant then [r.frm,r.til]else []:=by
 unfold bT;rw[tI h]
def JL{s:SrcR}{plant:Int}{k:Nat}{r}(h:s.recs[k]? = some r):kJ s plant (k+1)=(kJ s plant k||(decide (r.plantNo=plant)&&fM r)):=by
 unfold kJ;rw[Ox,h,List.any_append];simp
def JM(s)(plant:Int)(k:Nat):(bT s plant k).length<=2*k:=by
 unfold bT;have:∀L:List RecR,(L.flatMap fun r=>if r.plantNo=plant then [r.frm,r.til]else []).length<=2*L.length:=by
  intro L;induction L with
  |nil=>simp
  |cons a L ih=>
   rw[List.flatMap_cons,Oe,M6]
   have:(if a.plantNo=plant then [a.frm,a.til]else []).length<=2:=by split <;> simp
   omega
 have h:=this (s.recs.take k);rw[Nz]at h;omega
def kK(s:SrcR)(plant d:Int):Prop:=kJ s plant s.recs.length=true/\d<1024/\(d=0\/d∈bT s plant s.recs.length)
def JN(w:World)(s:SrcR)(plant:Int)(e:Ending)(w':World):Prop:=eB w w'/\∃(v:Value)(D:List Int),e=.returned v/\RowC w' 1 v (D.map af)/\D.length<=1024/\∀d,d∈D<->kK s plant d
def JO(s)(plant:Int)(w)(hS:ap w s)(ht:TypesOk s):Calls prog 206 #[.agg (srcC s).toArray,.int .i64 plant] w (JN w s plant):=by
 have cl:(srcC s).toArray.size=8:=rfl;have bh:=ht.2.1;unfold dG at bh;simp only[Ob,decide_eq_true_eq]at bh;have bn:Hid (∀k r,s.recs[k]? = some r->aQ w r/\∀W,eB w W->Calls prog 247 #[.agg (am r).toArray] W (Ret W (.bool (fM r)))):=fun k r hr=>⟨hS.recv r (Oc hr),fun W hW=>yM r W ((hS.recv r (Oc hr)).below hW)⟩
 obtain⟨Ar,cr,er,bs,HR⟩:=hS.recs;rw[N6]at er bs;obtain⟨n,hn⟩:=nm s.recs.length;have bv:=MY HR;have HN:=MY hn;have cb:n<=64:=by omega
 rw[hn]at er bs;obtain⟨N,hN⟩:=nm w.heap.size;obtain⟨W1,bg⟩:=nm (w.alloc (.cells (srcC s).toArray 31));have K1:=Blk.new w (srcC s) 31;rw[hN,bg]at K1;have B1:Hid (eB w W1):=by rw[<-bg];exact ak _ _
 have q6:W1.cell? ⟨N,6,none⟩=some (.slice Ar n cr):=by rw[<-er];exact(K1.at 6 _ rfl).1
 have ql:=K1.lt;have O1:Hid (aa W1 w.heap.size 3 1 (.slice none 0 0) ((bT s plant 0).map af)):=aa.none_ _ _ _ _;clear hS ht bh hn HR er K1;go_enter func206,ntmps206;go_wp2_with fail;clear bg hN q6 ql;go_loopw [4,5,11] (fun v b z W=>∃(k:Nat)(x:Bool),k<=n/\b=.bool x/\z=.int .i64 k/\Hid (aa W w.heap.size 3 1 v ((bT s plant k).map af))/\Hid (kJ s plant k=x)/\Hid (eB w W)) (fun _ _ z _=>n-(intOf z).toNat)
 case atStart=>exact⟨0,false,Nu _,rfl,rfl,O1.out,rfl,B1.out⟩
 case round=>
  clear O1 B1;obtain⟨k,x,hk,rfl,rfl,O,BK,B⟩:=hrel;obtain⟨A,c,ev⟩:=O.slice;rw[N6]at ev;obtain⟨q,hq⟩:=nm ((bT s plant k).length);have ci:q<=128:=by have:=JM s plant k;omega
  have HQ:=MY hq;rw[hq]at ev;subst ev;clear hq;by_cases cf:k<n
  case neg=>
   obtain rfl:n=k:=by omega
   cases x with
   |false=>
    have HF:Hid (∀d,¬kK s plant d):=fun d h=>by have:=h.1;rw[HN.out,BK.out]at this;cases this
    go_wp2
    go_ret
    exact⟨B.out,_,[],rfl,RowC.nil _ _ _ _,by simp,fun d=>⟨fun h=>by simp at h,fun h=>absurd h (HF.out d)⟩⟩
   |true=>
    obtain⟨xb,ag⟩:=nm wr.heap.size
    obtain⟨W2,ab⟩:=nm (wr.alloc (.cells #[.int .i64 0] 3))
    have X2:=Blk.new wr [.int .i64 0] 3
    rw[ag,ab]at X2
    have X2:=MY X2
    have B2:Hid (eB w W2):=by rw[<-ab];exact B.alloc B.size _
    have O2:Hid (aa W2 w.heap.size 3 1 (.slice A q c) ((bT s plant n).map af)):=by rw[<-ab];exact O.alloc _
    obtain⟨zs,bk⟩:=nm (bT s plant n++[0])
    have bp:=MY bk
    have ao:Hid (zs.length=q+1):=by show _=_;rw[<-bk,Oe,HQ.out];rfl
    clear bk
    go_wp2_with (at_builtin;refine pg jG rfl (.tmp 34) (.tmp 35) rfl w.heap.size (.slice A q c) ((bT s plant n).map af) rfl O2.out xb 1 [.int .i64 0] 3 rfl X2.out rfl rfl (by rw[N6,HQ.out];omega) B2.size (fun v3 w3 ho hg=>?_);have B3:=MY (B2.grown hg B2.size (fun k e=>O2.ge e));rw[show(bT s plant n).map af++[[Value.int .i64 0]]=zs.map af by rw[<-bp.out,N9];rfl]at ho;obtain⟨g,cap,rfl,bt,hR⟩:=JI ho (by intro e;have:=ao.out;rw[e]at this;cases this);rw[ao.out];have ba:=MY bt;have HR:=MY hR;clear ho hg bt hR)
    obtain⟨z1,ax⟩:=nm (zs.filter fun x=> !decide (1024<=x))
    obtain⟨m,hm⟩:=nm z1.length
    have ch:m<=q+1:=by rw[<-hm,<-ax,<-ao.out];exact List.length_filter_le _ _
    have HD:=MY (JF HR.out ao.out (by omega))
    rw[ax,hm]at HD
    have ca:=MY ax
    have HM:=MY hm
    clear ax hm
    refine HD.mono ?_
    rintro e w4 ⟨rfl,h4⟩
    have H4:=MY h4
    have B4:Hid (eB w w4):=B3.grown h4.2 B3.size (fun k e=>by cases e;exact ba.out)
    have HS:=MY (JG h4.1 HM.out (by omega))
    clear h4 HD
    go_wp2_with fail
    refine HS.mono ?_
    rintro e w5 ⟨rfl,h5⟩
    have B5:Hid (eB w w5):=B4.grown h5.2 B4.size (fun k e=>by cases e;exact ba.out)
    have HC:=MY (JH (n:=m) h5.1 (by rw[<-HM.out];simp) (by omega))
    obtain⟨z3,aA⟩:=nm (Lib.compact (z1.mergeSort fun x y=>decide (x<=y)))
    have bd:Hid (∀d,d∈z3<->kK s plant d):=fun d=>by
     rw[<-aA,JB,(List.mergeSort_perm _ _).mem_iff,<-ca.out,List.mem_filter,<-bp.out,Of,Oi];unfold kK;rw[HN.out,BK.out];simp only[Bool.not_eq_true',decide_eq_false_iff_not,Int.not_le,true_and];rw[and_comm,or_comm]
    have bi:z3.length<=m:=by
     rw[<-aA,<-HM.out];have:=zO (z1.mergeSort fun x y=>decide (x<=y));simpa using this
    rw[aA]at HC
    obtain⟨u,hu⟩:=nm z3.length
    have HU:=MY hu
    rw[hu]at bi HC
    clear h5 HS aA hu
    go_wp2_with fail
    refine HC.mono ?_
    rintro e w6 ⟨rfl,h6⟩
    have B6:Hid (eB w w6):=B5.grown h6.2 B5.size (fun k e=>by cases e;exact ba.out)
    have bo:=MY (JC h6.1.h h6.1.lt h6.1.le)
    rw[HU.out]at bo
    clear h6 HC
    go_wp2
    go_ret
    exact⟨B6.out,_,z3,rfl,bo.out,by rw[HU.out];omega,bd.out⟩
  obtain⟨r,hr⟩:=gx (l:=s.recs) (i:=k) (by have:=HN.out;omega);obtain⟨bb,off,rfl,br,hc⟩:=bv.out k (am r) (by rw[Ou,hr];rfl);have bw:Hid (wr.rangeAt bb (off+k*17) (am r)):=fun j u hu=>(B.cell (p:=⟨bb,_,none⟩) br).trans (hc j u hu);have bu:=io (bn.out k r hr).1;have bx:=MY bu;obtain⟨xb,ag⟩:=nm wr.heap.size;obtain⟨W2,ab⟩:=nm (wr.alloc (.cells (am r).toArray 55));have X2:=Blk.new wr (am r) 55;rw[ag,ab]at X2;have B2:Hid (eB w W2):=by rw[<-ab];exact B.alloc B.size _
  have O2:Hid (aa W2 w.heap.size 3 1 (.slice A q c) ((bT s plant k).map af)):=by rw[<-ab];exact O.alloc _
  have bm:=MY (JK (plant:=plant) hr);have bl:=MY (JL (plant:=plant) hr);have bc:=MY (bn.out k r hr).2;have cm:=(X2.at 16 _ rfl).1;have x2:=(X2.at 2 _ rfl).1;have x3:=(X2.at 3 _ rfl).1;have xl:=X2.lt;have be:=MY X2;obtain⟨cc,cd⟩:=ix (k:=k) (n:=n);clear hr br hc bu X2;go_upto_region 5 with(first|(refine wR 55 bw.out ?_)|(refine wB ag bx.out ?_))
  change Code.wp _ _ _ _ (wr.alloc (.cells (am r).toArray 55));rw[ab];simp only[PT];clear ab ag;by_cases hp:r.plantNo=plant
  case neg=>
   have t1:(r.plantNo==plant)=false:=by simpa using hp
   have al:Hid (bT s plant (k+1)=bT s plant k):=by show _=_;rw[bm.out,if_neg hp,Oz]
   have ad:Hid (kJ s plant (k+1)=x):=by show _=_;rw[bl.out,BK.out,show decide (r.plantNo=plant)=false by simpa using hp];simp
   rw[<-al.out]at O2;go_wp2_with fail;refine⟨⟨k+1,x,by omega,rfl,by go_num,O2.out,ad.out,B2.out⟩,?_⟩;simp[intOf];omega
  have t1:(r.plantNo==plant)=true:=by simpa using hp
  have al:Hid (bT s plant (k+1)=bT s plant k++[r.frm,r.til]):=by show _=_;rw[bm.out,if_pos hp]
  obtain⟨yb,av⟩:=nm W2.heap.size;obtain⟨W3,ac⟩:=nm (W2.alloc (.cells #[.int .i64 r.frm,.int .i64 r.til] 3));have an:∀y,Hid ((x||fM r)=y)->Hid (kJ s plant (k+1)=y):=fun y h=>by show _=_;rw[bl.out,BK.out,show decide (r.plantNo=plant)=true by simpa using hp,Np];exact h.out
  have an:=MY an
  cases x with
  |true=>
   have X3:=Blk.new W2 [.int .i64 r.frm,.int .i64 r.til] 3
   rw[av,ac]at X3
   have B3:Hid (eB w W3):=by rw[<-ac];exact B2.alloc B2.size _
   have O3:Hid (aa W3 w.heap.size 3 1 (.slice A q c) ((bT s plant k).map af)):=by rw[<-ac];exact O2.alloc _
   have RW:=MY (RowC.of_blk (k:=1) X3 [af r.frm,af r.til] rfl (by simp[af]) rfl 2 (No _))
   have ad:=an.out true (by show _=_;rfl)
   go_wp2_with (at_builtin;refine ku jG rfl (.tmp 24) (.tmp 29) rfl w.heap.size (.slice A q c) ((bT s plant k).map af) rfl O3.out (some ⟨yb,0,none⟩) 2 2 [af r.frm,af r.til] rfl RW.out (by simp[af]) (by simp[af];exact⟨rfl,rfl⟩) (by rw[N6,HQ.out];simp;omega) B3.size (fun v4 w4 ho hg _=>?_);have B4:=MY (B3.grown hg B3.size (fun k e=>O3.ge e));rw[show(bT s plant k).map af++[af r.frm,af r.til]=(bT s plant (k+1)).map af by rw[al.out,N9];rfl]at ho;have O4:=MY ho;clear ho hg)
   refine⟨⟨k+1,true,by omega,rfl,by go_num,O4.out,ad.out,B4.out⟩,?_⟩
   simp[intOf];omega
  |false=>
   obtain⟨y,hy⟩:=nm (fM r)
   have HH:=MY (bc.out W2 B2.out)
   rw[hy]at HH
   have ad:=an.out y (by show _=_;rw[hy];rfl)
   clear hy ac av W3 yb
   go_wp2_with (refine wG 55 (ai be.out) ?_)
   refine HH.mono ?_
   rintro e w5 ⟨rfl,ar⟩
   have B5:=MY (B2.trans (ar.mono B2.size))
   have O5:=MY (O2.below ar (No _))
   have X5:=be.below ar be.lt
   have x2:=(X5.at 2 _ rfl).1
   have x3:=(X5.at 3 _ rfl).1
   have xl:=X5.lt
   clear ar HH X5 B2 O2
   obtain⟨yb,av⟩:=nm w5.heap.size
   obtain⟨W3,ac⟩:=nm (w5.alloc (.cells #[.int .i64 r.frm,.int .i64 r.til] 3))
   have X3:=Blk.new w5 [.int .i64 r.frm,.int .i64 r.til] 3
   rw[av,ac]at X3
   have B3:Hid (eB w W3):=by rw[<-ac];exact B5.alloc B5.size _
   have O3:Hid (aa W3 w.heap.size 3 1 (.slice A q c) ((bT s plant k).map af)):=by rw[<-ac];exact O5.alloc _
   have RW:=MY (RowC.of_blk (k:=1) X3 [af r.frm,af r.til] rfl (by simp[af]) rfl 2 (No _))
   go_wp2_with (at_builtin;refine ku jG rfl (.tmp 24) (.tmp 29) rfl w.heap.size (.slice A q c) ((bT s plant k).map af) rfl O3.out (some ⟨yb,0,none⟩) 2 2 [af r.frm,af r.til] rfl RW.out (by simp[af]) (by simp[af];exact⟨rfl,rfl⟩) (by rw[N6,HQ.out];simp;omega) B3.size (fun v4 w4 ho hg _=>?_);have B4:=MY (B3.grown hg B3.size (fun k e=>O3.ge e));rw[show(bT s plant k).map af++[af r.frm,af r.til]=(bT s plant (k+1)).map af by rw[al.out,N9];rfl]at ho;have O4:=MY ho;clear ho hg)
   refine⟨⟨k+1,y,by omega,rfl,by go_num,O4.out,ad.out,B4.out⟩,?_⟩
   simp[intOf];omega
end
def KdA(v:Value):Prop:=∃l:List Int,l.length=32/\v=.agg (byC l).toArray
def zR:∃i,prog.info? 3=some i:=by
 obtain⟨i,hi,_⟩:=Option.map_eq_some_iff.1 s9;exact⟨i,hi⟩
def uq{l:List Int}{j:Nat}(hj:j<l.length)(W):(part 3 (byC l).toArray (j*1)).run prog W=.ok (.int .i64 l[j]!) W:=by
 have ha:∀W,(isAgg 3).run prog W=.ok false W:=fun _=>by kernel_rfl
 simp[part,NM,ha,hj,go_sem,byC]
def JS(xs ys:List Int)(hx:xs.length=32)(hy:ys.length=32)(W):(Op.equal 317 (.agg (byC xs).toArray) (.agg (byC ys).toArray)).run prog W=.ok (eqB xs ys) W:=by
 obtain⟨i,hi⟩:=zR;have hc:prog.cellsOf 3=1:=by kernel_rfl
 have ac:∀(is:List Nat)(W:World),(∀j∈is,j<32)->(Op.eqItems 9999 3 (prog.cellsOf 3) (byC xs).toArray (byC ys).toArray is).run prog W=.ok (is.all fun j=>xs[j]! ==ys[j]!) W:=by
  intro is;induction is with
  |nil=>intro W _;simp[Op.eqItems]
  |cons j is ih=>
   intro W h
   have hj:=h j (by simp)
   rw[hc]
   simp only[Op.eqItems,NM,uq (l:=xs) (j:=j) (by omega),uq (l:=ys) (j:=j) (by omega),NO]
   rw[run_equalIn_int W 9998 3 .i64 .i64 _ _ underlying3]
   simp only[NO,List.all_cons]
   cases hb:(xs[j]! ==ys[j]!)
   ·simp
   ·simp only[Bool.not_true,Bool.false_eq_true,if_false,Np]
    have:=ih W fun k hk=>h k (by simp[hk])
    rw[hc]at this
    simpa using this
 show(Op.equalIn 10000 317 _ _).run _ W=_;refine(run_equalIn_array W 9999 _ _ underlying317 hi).trans ?_;rw[ac _ W (by simp)];congr 1;by_cases h:xs=ys
 ·subst h;rw[eZ rfl];simp
 ·rw[fG h,Bool.eq_false_iff];intro ab;apply h;apply List.ext_getElem (by omega);intro j h1 h2;rw[Od]at ab;have:=ab j (by simp;omega);rwa[beq_iff_eq,getElem!_pos xs j h1,getElem!_pos ys j h2]at this
def JT(e:Bool)(l:List Int)(hl:l.length=32)(W):(Instr.checkKey e 10000 317 (.agg (byC l).toArray)).run prog W=.ok () W:=by
 obtain⟨i,hi⟩:=zR;have hc:prog.cellsOf 3=1:=by kernel_rfl
 rw[show(10000:Nat)=9999+1 from rfl,Instr.checkKey];simp only[NM,run_underlying underlying317,NO];simp only[Std.Legacy.Range.forIn_eq_forIn_range',Std.Legacy.Range.size,Nat.sub_zero,Nat.add_one_sub_one,Nat.div_one];have ab:∀j∈List.range' 0 32,j<l.length:=by intro j hj;have:=List.mem_range'_1.1 hj;omega
 generalize List.range' 0 32=is at ab;induction is with
 |nil=>simp
 |cons j is ih=>
  have p1:=uq (ab j (by simp)) W
  have p2:(Instr.checkKey e 9999 3 (.int .i64 l[j]!)).run prog W=.ok () W:=by
   rw[show(9999:Nat)=9998+1 from rfl,Instr.checkKey];simp only[NM,run_underlying underlying3,Result.andThen];rfl
  simp only[List.forIn_cons,NM,run_sizeOf W hi,hc,NO,p1,p2,NN]
  exact ih (fun y hy=>ab y (by simp[hy]))
def zS{a b:List Int}(h:byC a=byC b):a=b:=by
 induction a generalizing b with
 |nil=>
  cases b with
  |nil=>rfl
  |cons y l=>cases h
 |cons x l ih=>
  cases b with
  |nil=>cases h
  |cons y m=>
   injection h with h1 h2
   injection h1 with _ h1
   rw[h1,ih h2]
def JU(l:List Value)(n:Nat)(h:∀v∈l,∃x:Int,v=.int .i64 x):∀a b,(a,b)∈l.zip l->Instr.sameBits (n+1) a b=true:=by
 intro a b ac;have ab:a=b:=by
  obtain⟨i,hi⟩:=List.getElem?_of_mem ac;rw[List.getElem?_zip_eq_some]at hi;exact Option.some.inj (hi.1.symm.trans hi.2)
 subst ab;obtain⟨x,rfl⟩:=h a (List.of_mem_zip ac).1;simp[Instr.sameBits]
def ur:gP prog 317 KdA:=by
 refine⟨?_,?_,?_⟩
 ·rintro e v w ⟨l,hl,rfl⟩;exact JT e l hl w
 ·intro v es w hv ab;refine zP (Kd:=KdA) (fun d hd v u _ _=>?_) ⟨_,underlying317⟩ ?_ v es w hv ab
  ·rw[underlying317]at hd
   cases hd;rfl
  ·rintro v u W ⟨a,ha,rfl⟩ ⟨b,hb,rfl⟩;rw[JS a b ha hb];congr 1;by_cases h:a=b
   ·cases h;rw[eZ rfl,eZ rfl]
   ·rw[fG h,fG (fun e=>h (by injection e with e;exact zS (by simpa using e)))]
 ·rintro v ⟨l,_,rfl⟩;simp[Instr.sameBits];exact JU (byC l) 9998 (fun v hv=>by obtain⟨x,_,rfl⟩:=OE.1 hv;exact⟨x,rfl⟩)
section
variable {P:Program} {ops:Array Oper} {rest:List Oper} {op:Oper} {a:Act} {w:World} {Q:Exit->Act->World->Prop} {mt kt et:TypeId} {Kd:Value->Prop}
def zT(hK:gP P kt Kd)(hm:P.underlying mt=some (.map kt et))(hw:Region.wanted op (yielded ops a.tmps)=true)(x y)(ok:Bool)(ho:op.op=.lookup mt x y ok)(b:Nat)(k)(hx:a.eval x=.map (some b))(hy:a.eval y=k)(kv:List (Value×Value))(hB:aK w b kv)(ab:∀p∈kv,Kd p.1)(hk:Kd k){z}(hz:∀w,(zeroValue et).run P w=.ok z w)(r)(hr:r=if ok then .tuple #[(aD kv k).getD z,.bool (aD kv k).isSome]else(aD kv k).getD z)(h:wpList P ops Q rest (a.put op.dst r) w):wpList P ops Q (op::rest) a w:=by
 have e:(execOp a.eval op).run P w=.ok (.value r) w:=by
  unfold execOp;simp only[ho,hx,hy,NM,qE hK hm hB ab hk hz ok,NO,NN,hr]
 simp only[wpList];rw[if_pos hw];refine Or.inl ?_;unfold Oper.wp;rw[e,Oper.upon_value];exact h
end
end Go.Proofs.YtgbbhcbkldhjiaaGreatDoor
