import Derived.Test.YtgbbhcbkldhjiaaGreatDoorK07
import Derived.Test.YtgbbhcbkldhjiaaGreatDoorK03
set_option linter.all false
set_option maxRecDepth 100000
set_option maxHeartbeats 16000000
namespace Go.Proofs.YtgbbhcbkldhjiaaGreatDoor
open Go.Proofs.Tryz Go.RowKit Bf
def tY(T:TypeId)(k:Nat)(w:World)(M:List (List Value))(e:Ending)(w':World):Prop:=eB w w'/\∃v,e=.returned v/\aa w' w.heap.size T k v M
def eqN{P:Program}{t e}(hu:P.underlying t=some (.slice e))(A)(m c:Nat)(W):(binOp .eql t (.slice A m c) (.slice none 0 0)).run P W=.ok (.bool A.isNone) W:=by
 show(do pure (.bool (<-Op.equal t (.slice A m c) (.slice none 0 0))):Sem Value).run P W=_;rw[Op.equal,show Op.maxDepth=(Op.maxDepth-1)+1 from rfl,Op.equalIn]
 cases A <;> simp[run_underlying hu,go_sem]
def fk(f:FuncId)(t e:TypeId)(k:Nat):Prop:=∀(v:Value) (M:List (List Value)) (w:World),ia prog t e k=true->RowC w k v M->M.length<=1048576->(∀c∈M,c.length=k)->(∀c∈M,∀u∈c,u.oneCell'=true)->Calls prog f #[v] w (tY e k w M)
def iC:fk 255 51 118 4/\fk 256 52 59 7/\fk 229 53 67 3/\fk 220 23 95 6/\fk 221 25 163 4/\fk 222 26 81 2/\fk 223 27 51 1/\fk 226 28 55 17/\fk 230 29 172 4/\fk 172 24 9 1:=by
 refine⟨?_,?_,?_,?_,?_,?_,?_,?_,?_,?_⟩;all_goals
  intro v M w ha hL hl hk h1
  obtain⟨_,hI⟩:=sC ha
  have hc:=MY hL
  have ab:=MY h1
  have HK:=MY hk
  have HI:=MY hI
  obtain⟨_,_,ht,_⟩:=hI
  obtain⟨A,cap,e,_,hr⟩:=hL
  generalize hm:M.length=m at e hl
  subst e
  cases A with
  |none=>
   obtain rfl:M=[]:=by
    cases M with
    |nil=>rfl
    |cons x l=>obtain⟨b,off,e,_⟩:=hr 0 _ rfl;cases e
   have hq:=eqN ht none m cap
   simp only[Option.isNone_none]at hq
   clear hr hc hk HI ha ht
   first|go_enter func255,ntmps255|go_enter func256,ntmps256|go_enter func229,ntmps229|go_enter func220,ntmps220|go_enter func221,ntmps221|go_enter func222,ntmps222|go_enter func223,ntmps223|go_enter func226,ntmps226|go_enter func230,ntmps230|go_enter func172,ntmps172
   go_wp2
   go_ret
   exact⟨NB _ _,_,rfl,aa.none_ _ _ _ _⟩
  |some q=>
   have hq:=eqN ht (some q) m cap
   simp only[Option.isNone_some]at hq
   have HM:Hid (M.length<=1048576):=by show _<=_;omega
   clear hr hk h1 ha ht
   first|go_enter func255,ntmps255|go_enter func256,ntmps256|go_enter func229,ntmps229|go_enter func220,ntmps220|go_enter func221,ntmps221|go_enter func222,ntmps222|go_enter func223,ntmps223|go_enter func226,ntmps226|go_enter func230,ntmps230|go_enter func172,ntmps172
   go_wp2_with (at_builtin;(refine ku HI.out rfl (.tmp 5) (.tmp 6) rfl w.heap.size (.slice w.heap.size 0 0) [] rfl (aa.empty w w.heap.size _ _ (No _)) (some q) m cap M rfl (hc.below ((NB _ w).alloc (No _) _)) HK.out ab.out (by have:=HM.out;simp;omega) (by simp) ?_);intro v' w' ho hg _;have HO:=MY ho;have HG:=MY hg;clear ho hg)
   go_ret
   exact⟨j8 ((NB w.heap.size w).alloc (No _) _) (aa.empty w w.heap.size _ 1 (No _)) HG.out (No _) (by simp),_,rfl,HO.out⟩
def fk.of{f:FuncId}{t e}{k:Nat}{α:Type}{enc:α->List Value}(h:fk f t e k)(ha:ia prog t e k=true)(hk:∀x,(enc x).length=k)(v)(L:List α)(w)(hL:RowC w k v (L.map enc))(hl:L.length<=1048576)(h1:∀x∈L,∀u∈enc x,u.oneCell'=true):Calls prog f #[v] w (tY e k w (L.map enc)):=
 h v _ w ha hL (by rw[N6];exact hl) (fun c hc=>by obtain⟨z,_,rfl⟩:=OE.1 hc;exact hk z) fun c hc=>by obtain⟨z,hz,rfl⟩:=OE.1 hc;exact h1 z hz
def cY(f fc:FuncId)(e:TypeId)(k:Nat):Prop:=∀{α δ:Type} (enc:α->List Value) (cf:Nat) (cp:Array Value) (RX:α->δ->World->Prop) (nf:α->Option δ) (v:Value) (L:List α) (w:World),(∀(args:Array Value)(W:World),(callFunc cf args).run prog W=.ok (.enter cf args) W)->RowC w k v (L.map enc)->L.length<=1048576->(∀x,(enc x).length=k)->Calls prog fc #[v] w (tY e k w (L.map enc))->(∀y d,bS e (RX y d))->gQ prog cf cp e enc RX nf L w->Calls prog f #[v,.func (.func cf) #[] cp] w (qG e k enc RX w (mapO nf L))
def je:cY 224 255 118 4/\cY 227 256 59 7/\cY 183 229 67 3/\cY 169 220 95 6/\cY 173 221 163 4/\cY 175 222 81 2/\cY 177 223 51 1/\cY 180 226 55 17/\cY 185 230 172 4:=by
 refine⟨?_,?_,?_,?_,?_,?_,?_,?_,?_⟩;all_goals
  intro α δ enc cf cp RX nf v L w bi hL hl hk av ao hC
  have HK:=MY hk
  have al:=MY av
  have be:=MY ao
  have HC:=MY hC
  obtain⟨A0,bg,rfl⟩:=hL.len
  rw[N6]at al⊢
  obtain⟨n,hn⟩:∃n,L.length=n:=⟨_,rfl⟩
  rw[hn]at hl al⊢
  have HN:=MY hn
  obtain⟨res,ab⟩:∃r,mapO nf L=r:=⟨_,rfl⟩
  have HR:=MY ab
  rw[ab]
  clear hL ao hC hn ab hk av
  first|go_enter func224,ntmps224|go_enter func227,ntmps227|go_enter func183,ntmps183|go_enter func169,ntmps169|go_enter func173,ntmps173|go_enter func175,ntmps175|go_enter func177,ntmps177|go_enter func180,ntmps180|go_enter func185,ntmps185
  go_wp2_with fail
  refine al.mono ?_
  rintro e w1 ⟨ag,v1,rfl,ho⟩
  by_cases h0:L=[]
  ·subst h0
   obtain rfl:0=n:=HN.out
   obtain⟨A1,c1,rfl⟩:=ho.slice
   have HO:=MY ho
   have HB:=MY ag
   have E:Hid (res=some []):=HR.symm
   clear ho ag
   simp only[List.map_nil,ND]
   go_wp2_with fail
   go_loopw [10] (fun z W=>z=.int .i64 0/\W=w1) (fun _ _=>0)
   case atStart=>exact⟨rfl,rfl⟩
   case round=>
    obtain⟨rfl,rfl⟩:=hrel
    go_wp2_with fail
    rw[E.out]
    refine bodyPost_ret (v:= .slice A1 0 c1) (by simp[results,results224,results227,results183,results169,results173,results175,results177,results180,results185,go_sem]) rfl ⟨HB.out,_,[],rfl,HO.out,rfl,fun i y d h=>by simp at h⟩
  obtain⟨g,cap,rest,rfl,aA,ar,ba⟩:=ho.blk (by simpa using h0)
  have bd:=MY ba
  have S0:=MY (NSt.init (RX:=RX) (nf:=nf) (enc:=enc) ar ag aA)
  rw[N6,HN.out]
  have bh:=MY h0
  clear ho ag ar aA ba h0
  go_wp2_with fail
  go_loopw [10] (fun z W=>∃k ys ds,k<=n/\z=.int .i64 ((k:Nat):Int)/\Hid (NSt _ enc RX nf w L g rest k ys ds W)) (fun z _=>n-(intOf z).toNat)
  case atStart=>exact⟨0,[],[],Nu _,rfl,S0.out⟩
  case round=>
   obtain⟨k,ys,ds,hk,rfl,S⟩:=hrel
   clear S0
   by_cases bo:k<n
   case neg=>
    obtain rfl:n=k:=by omega
    have E:Hid (res=some ds):=by
     show _=_;rw[<-HR.out,<-S.mp,Ny (by have:=HN.out;omega)]
    have an:=MY (bd.out wr (ys.map enc) (by simp[S.len,HN.out]) (fun y hy=>by obtain⟨z,_,rfl⟩:=OE.1 hy;exact HK.out z) (by
     have:=S.bk;rw[List.drop_of_length_le (by rw[N6,HN.out];exact No _)]at this;simpa using this))
    have bc:Hid (ys.length=ds.length):=by show _=_;rw[S.len,cA S.mp,Nz,HN.out];simp
    rw[N6,HN.out]at an
    go_wp2_with fail
    rw[E.out]
    refine bodyPost_ret (v:= .slice g n cap) (by simp[results,results224,results227,results183,results169,results173,results175,results177,results180,results185,go_sem]) rfl ⟨S.bl,_,ys,rfl,an.out,bc.out,S.rx⟩
   obtain⟨x,hx⟩:∃x,L[k]? = some x:=⟨_,Nx (by have:=HN.out;omega)⟩
   have HX:=MY hx
   have bm:(0:Int)<=(k:Int):=by omega
   have bn:(k:Int)<(n:Int):=by omega
   clear hx
   go_wp2_with fail
   refine(HC.out g _ _ _ x wr (Oc HX.out) S.bl S.ge ?_ (S.at HX.out)).mono ?_
   ·rw[gK _ _ (fun y hy=>by obtain⟨z,_,rfl⟩:=OE.1 hy;exact HK.out z),N6,S.len];try omega
   intro e w2 h2
   cases ac:nf x with
   |none=>
    rw[ac]at h2
    obtain⟨rfl,ad⟩:=h2
    have E:Hid (res=none):=by show _=_;rw[<-HR.out];exact iw HX.out ac
    have bb:=MY (S.bl.trans (ad.mono S.ge))
    clear ac ad
    exact⟨rfl,bb.out,by rw[E.out]⟩
   |some d=>
    rw[ac]at h2
    obtain⟨rfl,ax,y,hy,ad⟩:=h2
    have S2:=MY (S.next be.out HX.out ac ax hy ad)
    clear ac ax hy ad
    go_wp2
    go_roundw
    case rel=>exact⟨k+1,_,_,by omega,by go_num,S2.out⟩
    case measure=>simp[intOf];omega
def cY.of{f fc:FuncId}{t e}{k:Nat}{α δ:Type}{enc:α->List Value}(h:cY f fc e k)(hc:fk fc t e k)(ha:ia prog t e k=true)(hk:∀x,(enc x).length=k)(cf:Nat)(cp)(RX:α->δ->World->Prop)(nf:α->Option δ)(v)(L:List α)(w)(ac:∀(args)(W),(callFunc cf args).run prog W=.ok (.enter cf args) W)(hL:RowC w k v (L.map enc))(hl:L.length<=1048576)(h1:∀x∈L,∀u∈enc x,u.oneCell'=true)(ab:∀y d,bS e (RX y d))(hC:gQ prog cf cp e enc RX nf L w):Calls prog f #[v,.func (.func cf) #[] cp] w (qG e k enc RX w (mapO nf L)):=
 h enc cf cp RX nf v L w ac hL hl hk (hc.of ha hk v L w hL hl h1) ab hC
def zt:bE prog 52 59 7 72:=bE.mk' (z:= .agg #[.int .i64 0,.int .i64 0,.string ⟨#[]⟩,.string ⟨#[]⟩,.bool false,.int .i64 0,.int .i64 0]) underlying52 (by kernel_rfl) (by decide)
def IA{δ:Type}:=cY.of (δ:=δ) (enc:=aT) je.1 iC.1 (by kernel_rfl) fun _=>rfl
def IB{δ:Type}:=cY.of (δ:=δ) (enc:=aG) je.2.1 iC.2.1 (by kernel_rfl) fun _=>rfl
def IC{δ:Type}:=cY.of (δ:=δ) (enc:=cQ) je.2.2.1 iC.2.2.1 (by kernel_rfl) fun _=>rfl
def ID{δ:Type}:=cY.of (δ:=δ) (enc:=dw) je.2.2.2.1 iC.2.2.2.1 (by kernel_rfl) fun _=>rfl
def IE{δ:Type}:=cY.of (δ:=δ) (enc:=dF) je.2.2.2.2.1 iC.2.2.2.2.1 (by kernel_rfl) fun _=>rfl
def IF{δ:Type}:=cY.of (δ:=δ) (enc:=bX) je.2.2.2.2.2.1 iC.2.2.2.2.2.1 (by kernel_rfl) fun _=>rfl
def IG{δ:Type}:=cY.of (δ:=δ) (enc:=gc) je.2.2.2.2.2.2.1 iC.2.2.2.2.2.2.1 (by kernel_rfl) fun _=>rfl
def II{δ:Type}:=cY.of (δ:=δ) (enc:=am) je.2.2.2.2.2.2.2.1 iC.2.2.2.2.2.2.2.1 (by kernel_rfl) fun _=>rfl
def IJ{δ:Type}:=cY.of (δ:=δ) (enc:=eX) je.2.2.2.2.2.2.2.2 iC.2.2.2.2.2.2.2.2.1 (by kernel_rfl) fun _=>rfl
def zu:=fk.of (enc:=bF) iC.2.2.2.2.2.2.2.2.2 (by kernel_rfl) fun _=>rfl
def dJ(w:World)(b:Nat)(M:List ByteArray):Prop:=∃kv,aK w b kv/\fN kv M
def dJ.below{w W}{b:Nat}{M}(h:dJ w b M)(hb:eB w W):dJ W b M:=by
 obtain⟨kv,h1,h2⟩:=h;exact⟨kv,h1.below hb h1.lt,h2⟩
def gR{b:Nat}{M}{w}(h:dJ w b M)(n):Calls prog 171 #[.map (some b),.string n] w (zr w (fnd M n)):=by
 obtain⟨kv,h1,h2⟩:=h;exact Iy b kv M n w h1 h2
structure RsR where
 bu:Nat
 bi:Nat
 bp:Nat
 bm:Nat
 bo:Nat
 A:Option Addr
 c:Nat
 cms:List Nat
def rsC(r:RsR):List Value:=[.map (some r.bu),.map (some r.bi),.map (some r.bp),.map (some r.bm),.map (some r.bo),.slice r.A r.cms.length r.c]
structure dj(w:World)(s:SrcR)(r:RsR):Prop where
 u:dJ w r.bu (kC s)
 i:dJ w r.bi (gO s)
 p:dJ w r.bp s.plants
 m:dJ w r.bm (nW s)
 o:dJ w r.bo (lS s)
 len:r.cms.length=s.opts.length
 row:RowC w 1 (.slice r.A r.cms.length r.c) (r.cms.map fun b=>[.map (some b)])
 ch:∀(k b:Nat)(o:OptR),r.cms[k]? = some b->s.opts[k]? = some o->dJ w b o.choices
def dj.below{w W}{s}{r:RsR}(h:dj w s r)(hb:eB w W):dj W s r:=
 ⟨h.u.below hb,h.i.below hb,h.p.below hb,h.m.below hb,h.o.below hb,h.len,h.row.below hb,fun k b o h1 h2=>(h.ch k b o h1 h2).below hb⟩
def IK{M}{n}{i:Int}(h:fnd M n=some i):∃k:Nat,i=(k:Int)/\k<M.length:=by
 unfold fnd at h
 cases hf:fidx M n with
 |none=>rw[hf]at h;cases h
 |some k=>rw[hf]at h;cases h;exact⟨k,rfl,Io hf⟩
def aR{W}{b o j:Nat}{T}{pre post l}{v}(h:Blk W b (pre++l++post) T)(ho:pre.length=o)(hv:l[j]? = some v):W.cell? ⟨b,o+j,none⟩=some v/\W.frozen? ⟨b,o+j,none⟩=false:=by
 refine h.at (o+j) v ?_;have hj:=(NQ.1 hv).1;rw[OL,N5 (by omega),N4 (by omega),<-ho,Nat.add_sub_cancel_left];exact hv
def dK{W}{b o j:Nat}{T}{pre post l}(h:Blk W b (pre++l++post) T)(ho:pre.length=o)(hj:j<l.length)(v):Blk (W.setCell ⟨b,o+j,none⟩ v) b (pre++l.set j v++post) T:=by
 have:=h.set (o+j) v;rw[OL,Oy _ _ (by omega),List.set_append_left _ _ (by omega),<-ho,Nat.add_sub_cancel_left,<-OL]at this;rw[ho]at this;exact this
def fm(W:World)(row:Option Nat):W.grownBy W row:=⟨rfl,rfl,rfl,No _,fun _ _ _=>rfl⟩
def jL{W V:World}{row:Option Nat}(h:W.grownBy V row):W.grownBy V.drew row:=⟨h.os,h.tape,h.output,h.size,h.block⟩
def cL{W V:World}{b i:Nat}(h:W.grownBy V (some b))(v):W.grownBy (V.setCell ⟨b,i,none⟩ v) (some b):=
 ⟨h.os,h.tape,h.output,by simpa[World.setCell]using h.size,fun k hk ab=>(NF _ _ _ _ (fun e=>ab (by rw[e]))).trans (h.block k hk ab)⟩
def IM(s)(r:RsR)(RB:Nat)(L:List aP)(w)(hR:dj w s r)(hB:Blk w RB (rsC r) 198) :gQ prog 225 #[.pointer RB] 118 aT (fun y d _=>y=d) (fh s) L w:=by
 intro b o pre post x W _ hW hb an hK;obtain⟨bu,bi,bp,bm,bo,A,c,cms⟩:=r;obtain⟨n,hn⟩:=nm cms.length;have c0:=(aR (j:=0) hK an rfl).1;have c1:=(aR (j:=1) hK an rfl).1;obtain⟨c2,f2⟩:=aR (j:=2) hK an rfl;obtain⟨c3,f3⟩:=aR (j:=3) hK an rfl;simp only[Na]at c0;have HK:=MY hK;have ad:=MY an;have HR:=MY hR;have HW:=MY hW;have ba:=MY hb;have be:=hB.below hW hB.lt;have r4:=(be.at 4 _ rfl).1;have r5:=(be.at 5 _ rfl).1;simp only[hn]at r5;have ax:¬RB=b:=by have:=hB.lt;omega
 have bv:¬b=RB:=fun e=>ax e.symm;have ar:=MY (fun V (hV:eB w V)=>gR (hR.below hV).o x.option);have bc:=MY hK.lt;have al:=MY hR.len;have ao:=hR.row;simp only[hn]at ao al;have av:=MY ao;have HN:=MY hn;unfold fh
 cases h1:fnd (lS s) x.option with
 |none=>
  rw[h1]at ar
  go_enter func225,ntmps225
  go_wp2_with fail
  refine aJ (S:=fun w'=>w'.cell? ⟨RB,4,none⟩=some (.map (some bo))/\w'.cell? ⟨b,o,none⟩=some (.string x.option)) [0,1,2,3,4,5,6,1007,8,9,1010] ⟨r4,c0⟩ (fun ab=>?_)
  repeat refine ay ?_
  refine az fun K hK=>?_
  go_simp
  refine(ar.out _ HW.drew).mono ?_
  rintro e w' ⟨rfl,rfl⟩
  exact⟨rfl,rfl,(NB _ _).drew⟩
 |some oi=>
  obtain⟨k,rfl,hk⟩:=IK h1
  obtain⟨op,aA⟩:∃p,s.opts[k]? = some p:=⟨s.opts[k]'(by simpa[lS]using hk),Nx _⟩
  have bt:k<n:=by have:=al.out;rw[this];exact(NQ.1 aA).1
  obtain⟨bk,bg⟩:∃p,cms[k]? = some p:=⟨cms[k]'(by rw[HN.out];exact bt),Nx _⟩
  obtain⟨A',c',eA,_,bw⟩:=av.out
  obtain⟨cb,ac,bl,br,bs⟩:=bw k [.map (some bk)] (by rw[Ou,bg];rfl)
  replace eA:=(Value.slice.inj eA).1
  rw[bl]at eA
  subst eA
  have z0:=(HW.cell (p:=⟨cb,_,none⟩) br).trans (bs 0 _ rfl)
  simp only[Na,Nat.mul_one]at z0
  have bx:¬cb=b:=by have:=ba.out;omega
  have bh:Hid (chs s (k:Int)=op.choices):=by show chs s _=_;unfold chs;rw[NI,aA]
  have bb:=MY (fun V (hV:eB w V)=>gR ((HR.below hV).ch k bk op bg aA) x.choice)
  obtain⟨cc,cd⟩:=ix (k:=k) (n:=n)
  rw[h1]at ar
  have ca:=MY (fun V (_:V=W)=>bc.out)
  obtain⟨W1,ag⟩:=nm ((W.setCell ⟨b,o+2,none⟩ (.int .i64 (k:Int))).drew)
  have K1:Hid (Blk W1 b (pre++aT ⟨x.option,x.choice,k,x.chNo⟩++post) 118):=by rw[<-ag];exact(dK HK.out ad.out (j:=2) (by show 2<4;decide) (.int .i64 (k:Int))).drew
  have B1:Hid (eB w W1):=by rw[<-ag];exact(HW.setCell (p:=⟨b,o+2,none⟩) ba.out _).drew
  have G1:Hid (W.grownBy W1 (some b)):=by rw[<-ag];exact jL (cL (fm W _) _)
  have d1:=(aR (j:=1) K1.out ad.out rfl).1
  have d2:=(aR (j:=2) K1.out ad.out rfl).1
  obtain⟨d3,g3⟩:=aR (j:=3) K1.out ad.out rfl
  have e5:W1.cell? ⟨RB,5,none⟩=some (.slice (some ⟨cb,ac,none⟩) n c):=by rw[<-ag];exact(NK _ _ _ _ (fun e=>ax (by injection e with e;exact e.symm))).trans r5
  have e0:W1.cell? ⟨cb,ac+k,none⟩=some (.map (some bk)):=by rw[<-ag];exact(NK _ _ _ _ (fun e=>bx (by injection e with e;exact e.symm))).trans z0
  simp only[Option.bind_some]
  rw[bh.out]
  have e4:W1.cell? ⟨RB,4,none⟩=some (.map (some bo)):=by rw[<-ag];exact(NK _ _ _ _ (fun e=>ax (by injection e with e;exact e.symm))).trans r4
  have bd:=(aR (j:=0) K1.out ad.out rfl).1
  simp only[Na]at bd
  have fin:Hid (∀h2,fnd op.choices x.choice=h2->Calls prog 225 (#[.pointer (some ⟨b,o,none⟩)]++#[.pointer RB]) W (tX 118 aT (fun y d _=>y=d) b pre post (h2.map fun k2=>aP.mk x.option x.choice k k2) W)):=by
   intro h2 bn;rw[bn]at bb;go_enter func225,ntmps225;go_wp2_with fail;refine aJ (S:=fun w'=>w'.cell? ⟨RB,4,none⟩=some (.map (some bo))/\w'.cell? ⟨b,o,none⟩=some (.string x.option)) [0,1,2,3,4,5,6,1007,8,9,1010] ⟨r4,c0⟩ (fun ab=>?_);repeat refine ay ?_
   refine az fun K hK=>?_;go_simp;refine(ar.out _ HW.drew).mono ?_;rintro e w' ⟨rfl,rfl⟩;refine hG hK (by exact⟨r4,c0⟩) fun ab=>?_;clear hK K;repeat refine ay ?_
   refine az fun K hK=>?_;go_simp;refine hG hK (by exact⟨e4,bd⟩) fun ab=>?_;clear hK K;refine aj ?_;go_wp2_with fail;refine aJ (S:=fun w'=>w'.cell? ⟨RB,5,none⟩=some (.slice (some ⟨cb,ac,none⟩) n c)/\w'.cell? ⟨b,o+2,none⟩=some (.int .i64 (k:Int))/\w'.cell? ⟨cb,ac+k,none⟩=some (.map (some bk))/\w'.cell? ⟨b,o+1,none⟩=some (.string x.choice)) [0,1,2,3,4,5,6,7,8,9,10,11,12,1013,14,15,1016] ⟨e5,d2,e0,d1⟩ (fun ab=>?_);repeat refine ay ?_
   refine az fun K hK=>?_;go_simp;refine(bb.out _ B1.drew).mono ?_;intro e w' hf
   cases h2 with
   |none=>
    obtain⟨rfl,rfl⟩:=hf
    refine⟨rfl,rfl,?_⟩
    exact(((NB b W).grown G1.out (NS bc.out) (fun r e=>by cases e;exact No _))).drew
   |some k2=>
    obtain⟨rfl,rfl⟩:=hf
    refine hG hK (by exact⟨e5,d2,e0,d1⟩) fun ab=>?_
    clear hK K
    repeat refine ay ?_
    refine az fun K hK=>?_
    go_simp
    refine hK.out _ _ ?_ (fun ab=>?_)
    ·(try dsimp only)
     (refine⟨?_,?_,?_,?_⟩ <;> (go_simp <;> first|exact e5|exact d2|exact e0|exact d1))
    clear hK K
    try simp only[PT]
    refine aj ?_
    go_wp2_with fail
    go_end0
    refine⟨rfl,jL (cL G1.out _),_,rfl,?_⟩
    exact(dK K1.out ad.out (j:=3) (by show 3<4;decide) (.int .i64 k2)).drew
  exact fin.out _ rfl
def IN(s)(r:RsR)(RB:Nat)(L:List dP)(w)(hR:dj w s r)(hB:Blk w RB (rsC r) 198) :gQ prog 170 #[.pointer RB] 95 dw (fun y d _=>y=d) (kD s) L w:=by
 intro b o pre post x W _ hW hb ad hK;obtain⟨bu,bi,bp,bm,bo,A,c,cms⟩:=r;have c1:=(aR (j:=1) hK ad rfl).1;obtain⟨c5,g5⟩:=aR (j:=5) hK ad rfl;have HK:=MY hK;have ag:=MY ad;have HW:=MY hW;have ar:=MY hK.lt;have al:=hB.below hW hB.lt;have r0:=(al.at 0 _ rfl).1;have an:¬RB=b:=by have:=hB.lt;omega
 have ao:¬b=RB:=fun e=>an e.symm;have ac:=MY (fun V (hV:eB w V)=>gR (hR.below hV).u x.unit);unfold kD
 cases h1:fnd (kC s) x.unit with
 |none=>
  rw[h1]at ac
  go_enter func170,ntmps170
  go_wp2_with fail
  refine aJ (S:=fun w'=>w'.cell? ⟨RB,0,none⟩=some (.map (some bu))/\w'.cell? ⟨b,o+1,none⟩=some (.string x.unit)) [0,1,2,3,4,5,6,1007,8,9,1010] ⟨r0,c1⟩ (fun ab=>?_)
  repeat refine ay ?_
  refine az fun K hK=>?_
  go_simp
  refine(ac.out _ HW.drew).mono ?_
  rintro e w' ⟨rfl,rfl⟩
  exact⟨rfl,rfl,(NB _ _).drew⟩
 |some i1=>
  rw[h1]at ac
  go_enter func170,ntmps170
  go_wp2_with fail
  refine aJ (S:=fun w'=>w'.cell? ⟨RB,0,none⟩=some (.map (some bu))/\w'.cell? ⟨b,o+1,none⟩=some (.string x.unit)) [0,1,2,3,4,5,6,1007,8,9,1010] ⟨r0,c1⟩ (fun ab=>?_)
  repeat refine ay ?_
  refine az fun K hK=>?_
  go_simp
  refine(ac.out _ HW.drew).mono ?_
  rintro e w' ⟨rfl,rfl⟩
  refine hG hK (by exact⟨r0,c1⟩) fun ab=>?_
  clear hK K
  repeat refine ay ?_
  refine az fun K hK=>?_
  go_simp
  refine hK.out _ _ ?_ (fun ab=>?_)
  ·(try dsimp only)
   (refine⟨?_,?_⟩ <;> (go_simp <;> first|exact r0|exact c1))
  clear hK K
  try simp only[PT]
  refine aj ?_
  go_wp2_with fail
  go_end0
  exact⟨rfl,jL (cL (fm W _) _),dP.mk x.name x.unit x.massN x.massD x.shelf i1,rfl,(dK HK.out ag.out (j:=5) (by show 5<6;decide) (.int .i64 i1)).drew⟩
def IP(s)(r:RsR)(RB:Nat)(L:List eW)(w)(hR:dj w s r)(hB:Blk w RB (rsC r) 198) :gQ prog 174 #[.pointer RB] 163 dF (fun y d _=>y=d) (kE s) L w:=by
 intro b o pre post x W _ hW hb ad hK;obtain⟨bu,bi,bp,bm,bo,A,c,cms⟩:=r;have c1:=(aR (j:=1) hK ad rfl).1;obtain⟨c3,g3⟩:=aR (j:=3) hK ad rfl;have HK:=MY hK;have ag:=MY ad;have HW:=MY hW;have ar:=MY hK.lt;have al:=hB.below hW hB.lt;have r2:=(al.at 2 _ rfl).1;have an:¬RB=b:=by have:=hB.lt;omega
 have ao:¬b=RB:=fun e=>an e.symm;have ac:=MY (fun V (hV:eB w V)=>gR (hR.below hV).p x.plant);unfold kE
 cases h1:fnd (s.plants) x.plant with
 |none=>
  rw[h1]at ac
  go_enter func174,ntmps174
  go_wp2_with fail
  refine aJ (S:=fun w'=>w'.cell? ⟨RB,2,none⟩=some (.map (some bp))/\w'.cell? ⟨b,o+1,none⟩=some (.string x.plant)) [0,1,2,3,4,5,6,1007,8,9,1010] ⟨r2,c1⟩ (fun ab=>?_)
  repeat refine ay ?_
  refine az fun K hK=>?_
  go_simp
  refine(ac.out _ HW.drew).mono ?_
  rintro e w' ⟨rfl,rfl⟩
  exact⟨rfl,rfl,(NB _ _).drew⟩
 |some i1=>
  rw[h1]at ac
  go_enter func174,ntmps174
  go_wp2_with fail
  refine aJ (S:=fun w'=>w'.cell? ⟨RB,2,none⟩=some (.map (some bp))/\w'.cell? ⟨b,o+1,none⟩=some (.string x.plant)) [0,1,2,3,4,5,6,1007,8,9,1010] ⟨r2,c1⟩ (fun ab=>?_)
  repeat refine ay ?_
  refine az fun K hK=>?_
  go_simp
  refine(ac.out _ HW.drew).mono ?_
  rintro e w' ⟨rfl,rfl⟩
  refine hG hK (by exact⟨r2,c1⟩) fun ab=>?_
  clear hK K
  repeat refine ay ?_
  refine az fun K hK=>?_
  go_simp
  refine hK.out _ _ ?_ (fun ab=>?_)
  ·(try dsimp only)
   (refine⟨?_,?_⟩ <;> (go_simp <;> first|exact r2|exact c1))
  clear hK K
  try simp only[PT]
  refine aj ?_
  go_wp2_with fail
  go_end0
  exact⟨rfl,jL (cL (fm W _) _),eW.mk x.name x.plant x.clean i1,rfl,(dK HK.out ag.out (j:=3) (by show 3<4;decide) (.int .i64 i1)).drew⟩
def IQ(s)(r:RsR)(RB:Nat)(L:List cO)(w)(hR:dj w s r)(hB:Blk w RB (rsC r) 198) :gQ prog 184 #[.pointer RB] 67 cQ (fun y d _=>y=d) (nX s) L w:=by
 intro b o pre post x W _ hW hb ad hK;obtain⟨bu,bi,bp,bm,bo,A,c,cms⟩:=r;have c0:=(aR (j:=0) hK ad rfl).1;simp only[Na]at c0;obtain⟨c2,g2⟩:=aR (j:=2) hK ad rfl;have HK:=MY hK;have ag:=MY ad;have HW:=MY hW;have ar:=MY hK.lt;have al:=hB.below hW hB.lt;have r3:=(al.at 3 _ rfl).1;have an:¬RB=b:=by have:=hB.lt;omega
 have ao:¬b=RB:=fun e=>an e.symm;have ac:=MY (fun V (hV:eB w V)=>gR (hR.below hV).m x.machine);unfold nX
 cases h1:fnd (nW s) x.machine with
 |none=>
  rw[h1]at ac
  go_enter func184,ntmps184
  go_wp2_with fail
  refine aJ (S:=fun w'=>w'.cell? ⟨RB,3,none⟩=some (.map (some bm))/\w'.cell? ⟨b,o,none⟩=some (.string x.machine)) [0,1,2,3,4,5,6,1007,8,9,1010] ⟨r3,c0⟩ (fun ab=>?_)
  repeat refine ay ?_
  refine az fun K hK=>?_
  go_simp
  refine(ac.out _ HW.drew).mono ?_
  rintro e w' ⟨rfl,rfl⟩
  exact⟨rfl,rfl,(NB _ _).drew⟩
 |some i1=>
  rw[h1]at ac
  go_enter func184,ntmps184
  go_wp2_with fail
  refine aJ (S:=fun w'=>w'.cell? ⟨RB,3,none⟩=some (.map (some bm))/\w'.cell? ⟨b,o,none⟩=some (.string x.machine)) [0,1,2,3,4,5,6,1007,8,9,1010] ⟨r3,c0⟩ (fun ab=>?_)
  repeat refine ay ?_
  refine az fun K hK=>?_
  go_simp
  refine(ac.out _ HW.drew).mono ?_
  rintro e w' ⟨rfl,rfl⟩
  refine hG hK (by exact⟨r3,c0⟩) fun ab=>?_
  clear hK K
  repeat refine ay ?_
  refine az fun K hK=>?_
  go_simp
  refine hK.out _ _ ?_ (fun ab=>?_)
  ·(try dsimp only)
   (refine⟨?_,?_⟩ <;> (go_simp <;> first|exact r3|exact c0))
  clear hK K
  try simp only[PT]
  refine aj ?_
  go_wp2_with fail
  go_end0
  exact⟨rfl,jL (cL (fm W _) _),cO.mk x.machine x.slots i1,rfl,(dK HK.out ag.out (j:=2) (by show 2<3;decide) (.int .i64 i1)).drew⟩
def IR(s)(r:RsR)(RB:Nat)(L:List aw)(w)(hR:dj w s r)(hB:Blk w RB (rsC r) 198) :gQ prog 228 #[.pointer RB] 59 aG (fun y d _=>y=d) (jd s) L w:=by
 intro b o pre post x W _ hW hb ad hK;obtain⟨bu,bi,bp,bm,bo,A,c,cms⟩:=r;have c2:=(aR (j:=2) hK ad rfl).1;obtain⟨c5,g5⟩:=aR (j:=5) hK ad rfl;have c3:=(aR (j:=3) hK ad rfl).1;obtain⟨c6,g6⟩:=aR (j:=6) hK ad rfl;have HK:=MY hK;have al:=MY ad;have HW:=MY hW;have av:=MY hK.lt;have an:=hB.below hW hB.lt;obtain⟨r0,r1⟩:=li an;have ao:¬RB=b:=by have:=hB.lt;omega
 have ar:¬b=RB:=fun e=>ao e.symm;have ac:=MY (fun V (hV:eB w V)=>gR (hR.below hV).u x.unit);have ag:=MY (fun V (hV:eB w V)=>gR (hR.below hV).i x.item);unfold jd
 cases h1:fnd (kC s) x.unit with
 |none=>
  rw[h1]at ac
  go_enter func228,ntmps228
  go_wp2_with fail
  refine aJ (S:=fun w'=>w'.cell? ⟨RB,0,none⟩=some (.map (some bu))/\w'.cell? ⟨b,o+2,none⟩=some (.string x.unit)/\w'.cell? ⟨RB,1,none⟩=some (.map (some bi))/\w'.cell? ⟨b,o+3,none⟩=some (.string x.item)) [0,1,2,3,4,5,6,7,9,10,11,12,13,14,1008,1015,16,17,1018,19,20,1021] ⟨r0,c2,r1,c3⟩ (fun ab=>?_)
  repeat refine ay ?_
  refine az fun K hK=>?_
  go_simp
  refine(ac.out _ HW.drew).mono ?_
  rintro e w' ⟨rfl,rfl⟩
  exact⟨rfl,rfl,(NB _ _).drew⟩
 |some i1=>
  rw[h1]at ac
  cases h2:fnd (gO s) x.item with
  |none=>
   rw[h2]at ag
   go_enter func228,ntmps228
   go_wp2_with fail
   refine aJ (S:=fun w'=>w'.cell? ⟨RB,0,none⟩=some (.map (some bu))/\w'.cell? ⟨b,o+2,none⟩=some (.string x.unit)/\w'.cell? ⟨RB,1,none⟩=some (.map (some bi))/\w'.cell? ⟨b,o+3,none⟩=some (.string x.item)) [0,1,2,3,4,5,6,7,9,10,11,12,13,14,1008,1015,16,17,1018,19,20,1021] ⟨r0,c2,r1,c3⟩ (fun ab=>?_)
   repeat refine ay ?_
   refine az fun K hK=>?_
   go_simp
   refine(ac.out _ HW.drew).mono ?_
   rintro e w' ⟨rfl,rfl⟩
   refine hG hK (by exact⟨r0,c2,r1,c3⟩) fun ab=>?_
   clear hK K
   repeat refine ay ?_
   refine az fun K hK=>?_
   go_simp
   refine(ag.out _ HW.drew).mono ?_
   rintro e w' ⟨rfl,rfl⟩
   exact⟨rfl,rfl,(NB _ _).drew⟩
  |some i2=>
   rw[h2]at ag
   go_enter func228,ntmps228
   go_wp2_with fail
   refine aJ (S:=fun w'=>w'.cell? ⟨RB,0,none⟩=some (.map (some bu))/\w'.cell? ⟨b,o+2,none⟩=some (.string x.unit)/\w'.cell? ⟨RB,1,none⟩=some (.map (some bi))/\w'.cell? ⟨b,o+3,none⟩=some (.string x.item)) [0,1,2,3,4,5,6,7,9,10,11,12,13,14,1008,1015,16,17,1018,19,20,1021] ⟨r0,c2,r1,c3⟩ (fun ab=>?_)
   repeat refine ay ?_
   refine az fun K hK=>?_
   go_simp
   refine(ac.out _ HW.drew).mono ?_
   rintro e w' ⟨rfl,rfl⟩
   refine hG hK (by exact⟨r0,c2,r1,c3⟩) fun ab=>?_
   clear hK K
   repeat refine ay ?_
   refine az fun K hK=>?_
   go_simp
   refine(ag.out _ HW.drew).mono ?_
   rintro e w' ⟨rfl,rfl⟩
   refine hG hK (by exact⟨r0,c2,r1,c3⟩) fun ab=>?_
   clear hK K
   repeat refine ay ?_
   refine az fun K hK=>?_
   go_simp
   refine hK.out _ _ ?_ (fun ab=>?_)
   ·(try dsimp only)
    (refine⟨?_,?_,?_,?_⟩ <;> (go_simp <;> first|exact r0|exact c2|exact r1|exact c3))
   clear hK K
   try simp only[PT]
   repeat refine ay ?_
   refine az fun K hK=>?_
   go_simp
   refine hK.out _ _ ?_ (fun ab=>?_)
   ·(try dsimp only)
    (refine⟨?_,?_,?_,?_⟩ <;> (go_simp <;> first|exact r0|exact c2|exact r1|exact c3))
   clear hK K
   try simp only[PT]
   refine aj ?_
   go_wp2_with fail
   go_end0
   exact⟨rfl,jL (cL (cL (fm W _) _) _),aw.mk x.n x.d x.unit x.item x.back i1 i2,rfl,(dK (dK HK.out al.out (j:=5) (by show 5<7;decide) (.int .i64 i1)) al.out (j:=6) (by show 6<7;decide) (.int .i64 i2)).drew⟩
def IS(s)(r:RsR)(RB:Nat)(L:List fD)(w)(hR:dj w s r)(hB:Blk w RB (rsC r) 198) :gQ prog 186 #[.pointer RB] 172 eX (fun y d _=>y=d) (kF s) L w:=by
 intro b o pre post x W _ hW hb ad hK;obtain⟨bu,bi,bp,bm,bo,A,c,cms⟩:=r;have c0:=(aR (j:=0) hK ad rfl).1;simp only[Na]at c0;obtain⟨c2,g2⟩:=aR (j:=2) hK ad rfl;have c1:=(aR (j:=1) hK ad rfl).1;obtain⟨c3,g3⟩:=aR (j:=3) hK ad rfl;have HK:=MY hK;have al:=MY ad;have HW:=MY hW;have av:=MY hK.lt;have an:=hB.below hW hB.lt;have r1:=(an.at 1 _ rfl).1;have ao:¬RB=b:=by have:=hB.lt;omega
 have ar:¬b=RB:=fun e=>ao e.symm;have ac:=MY (fun V (hV:eB w V)=>gR (hR.below hV).i x.a);have ag:=MY (fun V (hV:eB w V)=>gR (hR.below hV).i x.b);unfold kF
 cases h1:fnd (gO s) x.a with
 |none=>
  rw[h1]at ac
  go_enter func186,ntmps186
  go_wp2_with fail
  refine aJ (S:=fun w'=>w'.cell? ⟨RB,1,none⟩=some (.map (some bi))/\w'.cell? ⟨b,o,none⟩=some (.string x.a)/\w'.cell? ⟨b,o+1,none⟩=some (.string x.b)) [0,1,2,3,4,5,6,7,9,10,11,12,13,14,1008,1015,16,17,1018,19,20,1021] ⟨r1,c0,c1⟩ (fun ab=>?_)
  repeat refine ay ?_
  refine az fun K hK=>?_
  go_simp
  refine(ac.out _ HW.drew).mono ?_
  rintro e w' ⟨rfl,rfl⟩
  exact⟨rfl,rfl,(NB _ _).drew⟩
 |some i1=>
  rw[h1]at ac
  cases h2:fnd (gO s) x.b with
  |none=>
   rw[h2]at ag
   go_enter func186,ntmps186
   go_wp2_with fail
   refine aJ (S:=fun w'=>w'.cell? ⟨RB,1,none⟩=some (.map (some bi))/\w'.cell? ⟨b,o,none⟩=some (.string x.a)/\w'.cell? ⟨b,o+1,none⟩=some (.string x.b)) [0,1,2,3,4,5,6,7,9,10,11,12,13,14,1008,1015,16,17,1018,19,20,1021] ⟨r1,c0,c1⟩ (fun ab=>?_)
   repeat refine ay ?_
   refine az fun K hK=>?_
   go_simp
   refine(ac.out _ HW.drew).mono ?_
   rintro e w' ⟨rfl,rfl⟩
   refine hG hK (by exact⟨r1,c0,c1⟩) fun ab=>?_
   clear hK K
   repeat refine ay ?_
   refine az fun K hK=>?_
   go_simp
   refine(ag.out _ HW.drew).mono ?_
   rintro e w' ⟨rfl,rfl⟩
   exact⟨rfl,rfl,(NB _ _).drew⟩
  |some i2=>
   rw[h2]at ag
   go_enter func186,ntmps186
   go_wp2_with fail
   refine aJ (S:=fun w'=>w'.cell? ⟨RB,1,none⟩=some (.map (some bi))/\w'.cell? ⟨b,o,none⟩=some (.string x.a)/\w'.cell? ⟨b,o+1,none⟩=some (.string x.b)) [0,1,2,3,4,5,6,7,9,10,11,12,13,14,1008,1015,16,17,1018,19,20,1021] ⟨r1,c0,c1⟩ (fun ab=>?_)
   repeat refine ay ?_
   refine az fun K hK=>?_
   go_simp
   refine(ac.out _ HW.drew).mono ?_
   rintro e w' ⟨rfl,rfl⟩
   refine hG hK (by exact⟨r1,c0,c1⟩) fun ab=>?_
   clear hK K
   repeat refine ay ?_
   refine az fun K hK=>?_
   go_simp
   refine(ag.out _ HW.drew).mono ?_
   rintro e w' ⟨rfl,rfl⟩
   refine hG hK (by exact⟨r1,c0,c1⟩) fun ab=>?_
   clear hK K
   repeat refine ay ?_
   refine az fun K hK=>?_
   go_simp
   refine hK.out _ _ ?_ (fun ab=>?_)
   ·(try dsimp only)
    (refine⟨?_,?_,?_⟩ <;> (go_simp <;> first|exact r1|exact c0|exact c1))
   clear hK K
   try simp only[PT]
   repeat refine ay ?_
   refine az fun K hK=>?_
   go_simp
   refine hK.out _ _ ?_ (fun ab=>?_)
   ·(try dsimp only)
    (refine⟨?_,?_,?_⟩ <;> (go_simp <;> first|exact r1|exact c0|exact c1))
   clear hK K
   try simp only[PT]
   refine aj ?_
   go_wp2_with fail
   go_end0
   exact⟨rfl,jL (cL (cL (fm W _) _) _),fD.mk x.a x.b i1 i2,rfl,(dK (dK HK.out al.out (j:=2) (by show 2<4;decide) (.int .i64 i1)) al.out (j:=3) (by show 3<4;decide) (.int .i64 i2)).drew⟩
def ma{α:Type}(T)(y d:α):bS T (fun _=>y=d):=fun _ _ _ h _ _=>h
def IT{α:Type}{ys ds:List α}(hl:ys.length=ds.length)(h:∀(i:Nat)(y d:α),ys[i]? = some y->ds[i]? = some d->y=d):ys=ds:=by
 apply List.ext_getElem?;intro i;by_cases hi:i<ys.length
 ·obtain⟨y,hy⟩:∃y,ys[i]? = some y:=⟨ys[i],Nx hi⟩
  obtain⟨d,hd⟩:=gx (l:=ds) (i:=i);rw[hy,hd,h i y d hy hd]
 ·rw[OJ (by omega),OJ (by omega)]
def tZ{α:Type}(T:TypeId)(k:Nat)(enc:α->List Value)(w:World)(o:Option (List α))(e:Ending)(w':World):Prop:=
 eB w w'/\match o with
  |some ds=>∃v,e=.returned v/\aa w' w.heap.size T k v (ds.map enc)
  |none=>e=.panicked kH
def qG.list{α:Type}{T}{k:Nat}{enc:α->List Value}{w}{o:Option (List α)}{e}{w'}(h:qG T k enc (fun y d _=>y=d) w o e w'):tZ T k enc w o e w':=by
 refine⟨h.1,?_⟩;have h2:=h.2
 cases o with
 |none=>exact h2
 |some ds=>
  obtain⟨v,ys,he,ho,hl,hr⟩:=h2
  obtain rfl:=IT hl hr
  exact⟨v,he,ho⟩
def zw{w:World}{B o b i:Nat}{cs}(h:w.rangeAt B o cs)(ab:¬b=B)(v):(w.setCell ⟨b,i,none⟩ v).rangeAt B o cs:=fun j u hu=>(NK _ _ _ _ (fun e=>ab (by injection e))).trans (h j u hu)
def zx(r:RsR):((rsC r).all fun v=>v.oneCell')=true:=rfl
def zy(s)(r:RsR)(v)(L:List aP)(w)(hR:dj w s r)(hL:RowC w 4 v (L.map aT))(hl:L.length<=1048576):Calls prog 179 #[.agg (rsC r).toArray,v] w (tZ 118 4 aT w (mapO (fh s) L)):=by
 have ag:=mF;have al:(rsC r).toArray.size=6:=rfl;obtain⟨W1,ad⟩:=nm (w.alloc (.cells (rsC r).toArray 198));have K1:=Blk.new w (rsC r) 198;have B1:=MY (ak w (.cells (rsC r).toArray 198));rw[ad]at K1 B1;have HC:=MY (IA 225 #[.pointer w.heap.size] (fun y d _=>y=d) (fh s) v L W1 (fun _ _=>rfl) (hL.below B1.out) hl (fun x _ u hu=>by simp only[aT,Og,Oh,or_false]at hu;rcases hu with rfl|rfl|rfl|rfl <;> rfl) (fun y d=>ma _ y d) (IM s r w.heap.size L W1 (hR.below B1.out) K1));go_enter func179,ntmps179;go_wp2_with fail;refine HC.mono ?_;intro e w2 h2;have h2:=h2.list;have HB:=MY (B1.trans (h2.1.mono B1.size));have h3:=h2.2;have hs:=B1.size
 cases ho:mapO (fh s) L with
 |none=>
  rw[ho]at h3
  simp only at h3
  subst h3
  exact⟨rfl,HB.out,rfl⟩
 |some ds=>
  rw[ho]at h3
  obtain⟨v',rfl,ab⟩:=h3
  have HO:=MY (ab.less hs)
  have ac:=MY ho
  go_wp2_with fail
  refine bodyPost_ret (v:=v') (by simp[results,results179,go_sem]) rfl ⟨HB.out,by rw[ac.out];exact⟨v',rfl,HO.out⟩⟩
def zA(s)(r:RsR)(v)(L:List aw)(w)(hR:dj w s r)(hL:RowC w 7 v (L.map aG))(hl:L.length<=1048576):Calls prog 182 #[.agg (rsC r).toArray,v] w (tZ 59 7 aG w (mapO (jd s) L)):=by
 have ag:=mF;have al:(rsC r).toArray.size=6:=rfl;obtain⟨W1,ad⟩:=nm (w.alloc (.cells (rsC r).toArray 198));have K1:=Blk.new w (rsC r) 198;have B1:=MY (ak w (.cells (rsC r).toArray 198));rw[ad]at K1 B1;have HC:=MY (IB 228 #[.pointer w.heap.size] (fun y d _=>y=d) (jd s) v L W1 (fun _ _=>rfl) (hL.below B1.out) hl (fun x _ u hu=>by simp only[aG,Og,Oh,or_false]at hu;rcases hu with rfl|rfl|rfl|rfl|rfl|rfl|rfl <;> rfl) (fun y d=>ma _ y d) (IR s r w.heap.size L W1 (hR.below B1.out) K1));go_enter func182,ntmps182;go_wp2_with fail;refine HC.mono ?_;intro e w2 h2;have h2:=h2.list;have HB:=MY (B1.trans (h2.1.mono B1.size));have h3:=h2.2;have hs:=B1.size
 cases ho:mapO (jd s) L with
 |none=>
  rw[ho]at h3
  simp only at h3
  subst h3
  exact⟨rfl,HB.out,rfl⟩
 |some ds=>
  rw[ho]at h3
  obtain⟨v',rfl,ab⟩:=h3
  have HO:=MY (ab.less hs)
  have ac:=MY ho
  go_wp2_with fail
  refine bodyPost_ret (v:=v') (by simp[results,results182,go_sem]) rfl ⟨HB.out,by rw[ac.out];exact⟨v',rfl,HO.out⟩⟩
def nZ(B:Nat)(y:ForbR)(d:List aP)(W:World):Prop:=y.conds=d/\aa W B 118 4 y.cv (d.map aT)
def t6{T}(hT:118≠T)(B:Nat)(y:ForbR)(d:List aP):bS T (nZ B y d):=fun W W' row h hg hr=>⟨h.1,aa.stay hT W W' row h.2 hg hr⟩
def n9(B:Nat)(y:OptR)(d:ByteArray×List ByteArray)(W:World):Prop:=optD y=d/\aa W B 9 1 y.cv (y.choices.map bF)
def t7{T}(hT:9≠T)(B:Nat)(y)(d:ByteArray×List ByteArray):bS T (n9 B y d):=fun W W' row h hg hr=>⟨h.1,aa.stay hT W W' row h.2 hg hr⟩
def qH{W V}(h:eB W V)(row:Option Nat):W.grownBy V row:=⟨h.os,h.tape,h.output,h.size,fun k hk _=>h.block k hk⟩
def IU(L:List OptR)(w)(hL:∀o∈L,RowC w 1 o.cv (o.choices.map bF)/\o.choices.length<=1048576) :gQ prog 176 #[] 81 bX (n9 w.heap.size) (fun x=>some (optD x)) L w:=by
 intro b o pre post x W hx hW hb ac hK;obtain⟨ab,an⟩:=hL x hx;have ag:=MY (zu x.cv x.choices W (ab.below hW) an (fun y _ u hu=>by simp only[bF,Oi]at hu;subst hu;rfl));obtain⟨A,c,ex⟩:=ab.len;obtain⟨n,hn⟩:=nm ((x.choices.map bF).length);rw[hn]at ex;have c1:=(aR (j:=1) hK ac rfl).1;obtain⟨_,f1⟩:=aR (j:=1) hK ac rfl;have ao:=hK.lt;rw[ex]at c1 ag;have HK:=MY hK;have al:=MY ac;have HW:=MY hW;clear hK ac hW ab hn an hL;go_enter func176,ntmps176;go_wp2_with fail;refine ag.mono ?_;rintro e w1 ⟨ad,v,rfl,ho⟩;have HO:=MY (ho.less (HW.size));have K1:=MY (HK.below ad ao);have G1:=MY (qH ad (some b));obtain⟨q1,g1⟩:=aR (j:=1) K1.out al.out rfl;obtain⟨A',c',rfl⟩:=ho.slice;rw[N6]at HO;clear ad ho c1 f1;go_wp2_with fail;go_end0;refine⟨rfl,cL G1.out _,⟨x.name,.slice A' x.choices.length c',x.choices⟩,⟨rfl,?_⟩,dK K1.out al.out (j:=1) (by show 1<2;decide) _⟩;exact aa.stay (T:=81) (by decide) w1 _ (some b) HO.out (cL (fm w1 _) _) (fun r e=>by cases e;exact⟨_,_,K1.out⟩)
def IV(s)(r:RsR)(RB:Nat)(L:List ForbR)(w)(hR:dj w s r)(hB:Blk w RB (rsC r) 198)(hL:∀f∈L,RowC w 4 f.cv (f.conds.map aT)/\f.conds.length<=1048576) :gQ prog 178 #[.pointer RB] 51 gc (nZ w.heap.size) (fun x=>mapO (fh s) x.conds) L w:=by
 intro b o pre post x W hx hW hb aA hK;obtain⟨ad,bc⟩:=hL x hx;have an:=MY (zy s r x.cv x.conds W.drew (hR.below hW.drew) (ad.below hW.drew) bc);obtain⟨A,c,ex⟩:=ad.len;obtain⟨n,hn⟩:=nm ((x.conds.map aT).length);rw[hn]at ex;obtain⟨c0,f0⟩:=aR (j:=0) hK aA rfl;simp only[Na]at c0 f0;have ax:=hK.lt;rw[ex]at c0 an;have KR:=MY (hB.below hW hB.lt);have HK:=MY hK;have ao:=MY aA;have HW:=MY hW;have be:=KR.lt;have al:Hid (RB<w.heap.size):=hB.lt;go_enter func178,ntmps178;go_wp2_with fail;have av:=MY (ai KR.out);have bd:¬b=RB:=by have:=al.out;omega
 refine aJ (S:=fun w'=>w'.rangeAt RB 0 (rsC r)) [0,1,2,3,1004,1005,6,1007] av.out (fun ab=>?_);repeat(first|(refine sR 198 (fun w' bb=>bb) ?_)|(refine sQ ?_))
 refine az fun K hK=>?_;go_simp;refine hG hK (by exact av.out) fun ab=>?_;clear hK K;refine az fun K hK=>?_;go_simp;refine an.mono ?_;intro e w1 h2;have ag:=MY h2.1;have h3:=h2.2
 cases ho:mapO (fh s) x.conds with
 |none=>
  rw[ho]at h3
  simp only at h3
  subst h3
  exact⟨rfl,rfl,((NB W.heap.size W).drew.trans ag.out).mono (NS ax)⟩
 |some ds=>
  rw[ho]at h3
  obtain⟨v',rfl,ac⟩:=h3
  have HO:=MY (ac.less HW.size)
  have K1:=MY (HK.drew.below ag.out ax)
  have G1:=MY (qH ((NB W.heap.size W).drew.trans ag.out) (some b))
  have ar:=MY (ai (KR.drew.below ag.out be))
  obtain⟨q1,g1⟩:=aR (j:=0) K1.out ao.out rfl
  simp only[Na]at q1 g1
  obtain⟨A',c',rfl⟩:=ac.slice
  have ba:=MY ho
  refine hG hK (by exact ar.out) fun ab=>?_
  clear hK K
  repeat(refine sQ ?_)
  refine az fun K hK=>?_
  go_simp
  refine hG hK (by exact zw ar.out bd _) fun ab=>?_
  clear hK K
  refine aj ?_
  go_wp2_with fail
  go_end0
  rw[N6]at HO
  unfold tX
  rw[ba.out]
  refine⟨rfl,cL G1.out _,⟨.slice A' ds.length c',ds⟩,⟨rfl,?_⟩,?_⟩
  ·exact aa.stay (T:=51) (by decide) w1 _ (some b) HO.out (cL (fm w1 _) _) (fun r e=>by cases e;exact⟨_,_,K1.out⟩)
  ·have:=dK K1.out ao.out (j:=0) (by show 0<1;decide) (.slice A' ds.length c')
   exact this
structure oa(B:Nat)(y:RecR)(d:jJ)(W:World):Prop where
 eq:lT y=d
 ifs:aa W B 118 4 y.ifv (y.ifs.map aT)
 ins:aa W B 59 7 y.inv (y.ins.map aG)
 outs:aa W B 59 7 y.outv (y.outs.map aG)
 runs:aa W B 67 3 y.runv (y.runs.map cQ)
def ua{T}(h1:118≠T)(h2:59≠T)(h3:67≠T)(B:Nat)(y)(d:jJ):bS T (oa B y d):=fun W W' row h hg hr=>
 ⟨h.eq,aa.stay h1 W W' row h.ifs hg hr,aa.stay h2 W W' row h.ins hg hr,aa.stay h2 W W' row h.outs hg hr,aa.stay h3 W W' row h.runs hg hr⟩
def gk{w}{B k:Nat}{T}{v}{M:List (List Value)}(h:aa w B T k v M):∃A n c,v=.slice A n c/\M.length=n:=by
 obtain⟨A,c,e⟩:=h.slice;exact⟨A,_,c,e,rfl⟩
def fO{W V U:World}{row:Option Nat}(h:W.grownBy V row)(k:V.grownBy U row):W.grownBy U row:=
 ⟨k.os.trans h.os,k.tape.trans h.tape,k.output.trans h.output,Nv h.size k.size,fun i hi ab=>(k.block i (Nf hi h.size) ab).trans (h.block i hi ab)⟩
def IW(s)(r:RsR)(RB:Nat)(L:List RecR)(w)(hR:dj w s r)(hB:Blk w RB (rsC r) 198)(hL:∀x∈L,aQ w x) :gQ prog 181 #[.pointer RB] 55 am (oa w.heap.size) (iz s) L w:=by
 have eb:=mF;have ec:(rsC r).toArray.size=6:=rfl;intro b o pre post x W hx hW hb bg hK;have hV:=hL x hx;obtain⟨A1,A2,A3,A4,k1,k2,k3,k4,n1,n2,n3,n4,f1,f2,f3,f4,_,_⟩:=hV.slices';have HV:=MY hV;have c0:=(aR (j:=0) hK bg rfl).1;have c1:=(aR (j:=1) hK bg rfl).1;obtain⟨dv,dT⟩:=aR (j:=15) hK bg rfl;obtain⟨dy,ea⟩:=aR (j:=16) hK bg rfl;simp only[Na]at c0;have HK:=MY hK;have ag:=MY bg;have HW:=MY hW;have HR:=MY hR;have HB:=MY hB;have bs:=MY hb;have bn:=hK.lt;have cp:=hB.below hW hB.lt;have r1:=(cp.at 1 _ rfl).1;have r2:=(cp.at 2 _ rfl).1;have dl:¬RB=b:=by have:=hB.lt;omega
 have ca:¬b=RB:=fun e=>dl e.symm;have cx:=MY (fun V (hV:eB w V)=>gR (hR.below hV).i x.item);have cz:=MY (fun V (hV:eB w V)=>gR (hR.below hV).p x.plant);obtain⟨fo,cr⟩:=nm (iz s x);rw[cr];have ad:=MY cr;unfold iz at ad;have F:=MY (And.intro f1 (And.intro f2 (And.intro f3 f4)));go_enter func181,ntmps181;go_wp2_with fail;refine aJ (S:=fun w'=>w'.cell? ⟨RB,1,none⟩=some (.map (some r.bi))/\w'.cell? ⟨b,o,none⟩=some (.string x.item)/\w'.cell? ⟨RB,2,none⟩=some (.map (some r.bp))/\w'.cell? ⟨b,o+1,none⟩=some (.string x.plant)) [0,1,2,3,4,5,6,7,9,10,11,12,13,14,1008,1015,16,17,1018,19,20,1021] ⟨r1,c0,r2,c1⟩ (fun ab=>?_);repeat refine ay ?_
 refine az fun K hK=>?_;go_simp;refine(cx.out _ HW.drew).mono ?_;rintro e w' ⟨rfl,h1⟩
 cases e1:fnd (gO s) x.item with
 |none=>
  rw[e1]at h1 ad
  simp only at h1
  subst h1
  obtain rfl:none=fo:=ad.out
  exact⟨rfl,rfl,(NB _ _).drew⟩
 |some i1=>
 rw[e1]at h1 ad;simp only at h1;subst h1;refine hG hK (by exact⟨r1,c0,r2,c1⟩) fun ab=>?_;clear hK K;repeat refine ay ?_
 refine az fun K hK=>?_;go_simp;refine(cz.out _ HW.drew).mono ?_;rintro e w' ⟨rfl,h1⟩
 cases e1:fnd s.plants x.plant with
 |none=>
  rw[e1]at h1 ad
  simp only at h1
  subst h1
  obtain rfl:none=fo:=ad.out
  exact⟨rfl,rfl,(NB _ _).drew⟩
 |some i2=>
 rw[e1]at h1 ad;simp only at h1;subst h1;refine hG hK (by exact⟨r1,c0,r2,c1⟩) fun ab=>?_;clear hK K;repeat refine ay ?_
 refine az fun K hK=>?_;go_simp;refine hK.out _ _ ?_ (fun ab=>?_)
 ·(try dsimp only);(refine⟨?_,?_,?_,?_⟩ <;> (go_simp <;> first|exact r1|exact c0|exact r2|exact c1))
 clear hK K;try simp only[PT]
 repeat refine ay ?_
 refine az fun K hK=>?_;go_simp;refine hK.out _ _ ?_ (fun ab=>?_)
 ·(try dsimp only);(refine⟨?_,?_,?_,?_⟩ <;> (go_simp <;> first|exact r1|exact c0|exact r2|exact c1))
 clear hK K;try simp only[PT]
 refine aj ?_;obtain⟨W1,bm⟩:=nm (((W.setCell ⟨b,o+15,none⟩ (.int .i64 i1)).setCell ⟨b,o+16,none⟩ (.int .i64 i2)).drew);obtain⟨x1,an⟩:∃y:RecR,y={x with itemNo:=i1,plantNo:=i2}:=⟨_,rfl⟩
 have K1:Hid (Blk W1 b (pre++am x1++post) 55):=by rw[<-bm,an];exact(dK (dK HK.out ag.out (j:=15) (by show 15<17;decide) (.int .i64 i1)) ag.out (j:=16) (by show 16<17;decide) (.int .i64 i2)).drew
 have B1:Hid (eB w W1):=by rw[<-bm];exact((HW.setCell (p:=⟨b,o+15,none⟩) bs.out _).setCell (p:=⟨b,o+16,none⟩) bs.out _).drew
 have G1:Hid (W.grownBy W1 (some b)):=by rw[<-bm];exact jL (cL (cL (fm W _) _) _)
 have cu:=MY (((NB b W).grown G1.out (NS bn) (fun r e=>by cases e;exact No _)));have bc:=MY (IC 184 #[.pointer RB] (fun y d _=>y=d) (nX s) x.runv x.runs);have cf:=MY (fun V (hV:eB w V)=>zy s r x.ifv x.ifs V (HR.below hV) (HV.ifs.below hV) HV.ifl);have ch:=MY (fun V (hV:eB w V)=>zA s r x.inv x.ins V (HR.below hV) (HV.ins.below hV) HV.inl);have ci:=MY (fun V (hV:eB w V)=>zA s r x.outv x.outs V (HR.below hV) (HV.outs.below hV) HV.outl);rw[F.1]at cf;rw[F.2.1]at ch;rw[F.2.2.1]at ci;rw[F.2.2.2]at bc;have bl:Hid (∀V,Blk V b (pre++am x1++post) 55->eB w V->(V.cell? ⟨b,o+4,none⟩=some (.slice A1 n1 k1)/\V.cell? ⟨b,o+5,none⟩=some (.slice A2 n2 k2)/\V.cell? ⟨b,o+6,none⟩=some (.slice A3 n3 k3))/\V.rangeAt RB 0 (rsC r)):=by
  intro V hV hb;refine⟨⟨(aR (j:=4) hV ag.out ?_).1,(aR (j:=5) hV ag.out ?_).1,(aR (j:=6) hV ag.out ?_).1⟩,ai (HB.below hb HB.lt)⟩
  ·rw[an,<-F.1];rfl
  ·rw[an,<-F.2.1];rfl
  ·rw[an,<-F.2.2.1];rfl
 go_wp2_with fail;rw[bm];have cl:=MY (bl.out W1 K1.out B1.out);have co:=MY K1.drew;have bh:=MY B1.drew;have bo:=MY cu.drew;have bd:Hid (W1.heap.size<=W1.drew.heap.size):=No _;refine pF (S:=fun w'=>w'.cell? ⟨b,o+4,none⟩=some (.slice A1 n1 k1)/\w'.cell? ⟨b,o+5,none⟩=some (.slice A2 n2 k2)/\w'.cell? ⟨b,o+6,none⟩=some (.slice A3 n3 k3)) (Z:=fun w'=>w'.rangeAt RB 0 (rsC r)) 23 [0,501,502,503,4,5,6,7,509,510,511,512,13,515,516,517,518,19,1008,1014,1020,521,22,1023,24,25,1026,27,28,1029] (by kernel_rfl) (by kernel_rfl) cl.1 cl.2 (fun ab bu=>?_);repeat(first|(refine wW 198 6 (by kernel_rfl) rfl rfl rfl rfl (.tmp 1) rfl RB 0 rfl (rsC r) rfl (fun w' al=>al) ?_;try simp only[PT])|(refine jD (v:=?_) rfl rfl rfl ?_ ?_;rotate_left;(· intro w al;(try dsimp only at al);go_simp;try(with_reducible rfl));try simp only[PT])|(refine jC (v:=?_) rfl rfl rfl rfl ?_ ?_;rotate_left;(· intro w al;(try dsimp only at al);go_simp;try(with_reducible rfl));try simp only[PT]))
 refine fZ rfl rfl rfl rfl rfl (fun K hK=>?_);go_simp;refine(cf.out W1.drew bh.out).mono ?_;rintro e w2 ⟨be,h3⟩;have ba:Hid (eB W1 w2):=(NB W1.heap.size W1).drew.trans be;have B2:=MY (bh.trans (be.mono bh.size));have cb:=MY (bo.trans (be.mono (Nv (NS bn) (Nv G1.size bd.out))));have cm:Hid (W1.heap.size<=w2.heap.size):=Nv bd.out be.size;have K2:=MY (co.below be co.lt)
 cases e1:mapO (fh s) x.ifs with
 |none=>
  rw[e1]at h3 ad
  simp only at h3
  subst h3
  obtain rfl:none=fo:=ad.out
  exact⟨rfl,rfl,cb.out⟩
 |some dd=>
 rw[e1]at h3 ad;obtain⟨v2,rfl,ac⟩:=h3;have O2:=MY (ac.less (bh.size));obtain⟨S2,l2,q2,ev,_⟩:=gk ac;subst ev;have cD:=MY (bl.out w2 K2.out B2.out);refine hK.out _ _ cD.out (fun ab=>?_);try simp only[PT]
 refine fZ rfl rfl rfl rfl rfl (fun K hK=>?_);go_simp;refine(ch.out w2 B2.out).mono ?_;rintro e w3 ⟨ax,h3⟩;have bb:Hid (eB W1 w3):=ba.trans (ax.mono ba.size);have B3:=MY (B2.trans (ax.mono B2.size));have cc:=MY (cb.trans (ax.mono (Nv (NS bn) (Nv G1.size cm.out))));have cn:Hid (W1.heap.size<=w3.heap.size):=Nv cm.out ax.size;have K3:=MY (K2.below ax K2.lt)
 cases e1:mapO (jd s) x.ins with
 |none=>
  rw[e1]at h3 ad
  simp only at h3
  subst h3
  obtain rfl:none=fo:=ad.out
  exact⟨rfl,rfl,cc.out⟩
 |some df=>
 rw[e1]at h3 ad;obtain⟨v3,rfl,ac⟩:=h3;have O3:=MY (ac.less (B2.size));have cP:=MY (O2.below ax (No _));obtain⟨S3,l3,q3,ev,_⟩:=gk ac;subst ev;have cN:=MY (bl.out w3 K3.out B3.out);refine hK.out _ _ cN.out (fun ab=>?_);try simp only[PT]
 refine fZ rfl rfl rfl rfl rfl (fun K hK=>?_);go_simp;refine(ci.out w3 B3.out).mono ?_;rintro e w4 ⟨ar,h3⟩;have br:Hid (eB W1 w4):=bb.trans (ar.mono bb.size);have B4:=MY (B3.trans (ar.mono B3.size));have cd:=MY (cc.trans (ar.mono (Nv (NS bn) (Nv G1.size cn.out))));have ds:Hid (W1.heap.size<=w4.heap.size):=Nv cn.out ar.size;have K4:=MY (K3.below ar K3.lt)
 cases e1:mapO (jd s) x.outs with
 |none=>
  rw[e1]at h3 ad
  simp only at h3
  subst h3
  obtain rfl:none=fo:=ad.out
  exact⟨rfl,rfl,cd.out⟩
 |some di=>
 rw[e1]at h3 ad;obtain⟨v4,rfl,ac⟩:=h3;have O4:=MY (ac.less (B3.size));have cR:=MY (cP.below ar (No _));have db:=MY (O3.below ar (No _));obtain⟨S4,l4,q4,ev,_⟩:=gk ac;subst ev;have bk:=MY (bl.out w4 K4.out B4.out);refine hK.out _ _ bk.out (fun ab=>?_);try simp only[PT]
 repeat(first|(refine wW 198 6 (by kernel_rfl) rfl rfl rfl rfl (.tmp 1) rfl RB 0 rfl (rsC r) rfl (fun w' al=>al) ?_;try simp only[PT])|(refine jD (v:=?_) rfl rfl rfl ?_ ?_;rotate_left;(· intro w al;(try dsimp only at al);go_simp;try(with_reducible rfl));try simp only[PT])|(refine jC (v:=?_) rfl rfl rfl rfl ?_ ?_;rotate_left;(· intro w al;(try dsimp only at al);go_simp;try(with_reducible rfl));try simp only[PT]))
 have bt:Hid (eB W1 w4):=br.out;have KZ:Hid (∀V:World,V.rangeAt RB 0 (rsC r)->∀(j:Nat)(v:Value),(V.setCell ⟨b,o+j,none⟩ v).rangeAt RB 0 (rsC r)):=fun V h j v=>zw h ca v;obtain⟨p4,j4⟩:=aR (j:=4) K4.out ag.out (v:= .slice A1 n1 k1) (by rw[an,<-F.1];rfl);obtain⟨p5,j5⟩:=aR (j:=5) K4.out ag.out (v:= .slice A2 n2 k2) (by rw[an,<-F.2.1];rfl);obtain⟨p6,j6⟩:=aR (j:=6) K4.out ag.out (v:= .slice A3 n3 k3) (by rw[an,<-F.2.2.1];rfl);refine pE rfl rfl rfl rfl rfl (fun K hK=>?_);go_simp;refine hK.out _ _ (KZ.out _ bk.2 _ _) (fun bv=>?_);try simp only[PT]
 repeat refine ay ?_
 refine az fun K hK=>?_;go_simp;refine hK.out _ _ (KZ.out _ (KZ.out _ bk.2 _ _) _ _) (fun bw=>?_);try simp only[PT]
 repeat refine ay ?_
 refine az fun K hK=>?_;go_simp;refine hK.out _ _ (KZ.out _ (KZ.out _ (KZ.out _ bk.2 _ _) _ _) _ _) (fun bx=>?_);try simp only[PT]
 refine aj ?_;obtain⟨W5,cq⟩:=nm (((w4.setCell ⟨b,o+4,none⟩ (.slice S2 l2 q2)).setCell ⟨b,o+5,none⟩ (.slice S3 l3 q3)).setCell ⟨b,o+6,none⟩ (.slice S4 l4 q4));obtain⟨x2,av⟩:∃y:RecR,y={x1 with ifv:= .slice S2 l2 q2,inv:= .slice S3 l3 q3,outv:= .slice S4 l4 q4,ifs:=dd,ins:=df,outs:=di}:=⟨_,rfl⟩
 have K5:Hid (Blk W5 b (pre++am x2++post) 55):=by rw[<-cq,av];exact dK (dK (dK K4.out ag.out (j:=4) (by show 4<17;decide) _) ag.out (j:=5) (by show 5<17;decide) _) ag.out (j:=6) (by show 6<17;decide) _
 have G5:Hid (w4.grownBy W5 (some b)):=by rw[<-cq];exact cL (cL (cL (fm w4 _) _) _) _
 have B5:=MY (B4.grown G5.out B4.size (fun r e=>by cases e;exact bs.out));have cv:=MY (cd.grown G5.out (NS K4.lt) (fun r e=>by cases e;exact No _));have ao:∀r',some b=some r'->∃cs fr,w4.heap[r']? = some (.cells cs 55 fr):=fun r' e=>by cases e;exact⟨_,_,K4.out⟩
 have P2:=MY (aa.stay (T:=55) (by decide) w4 W5 (some b) cR.out G5.out ao);have P3:=MY (aa.stay (T:=55) (by decide) w4 W5 (some b) db.out G5.out ao);have P4:=MY (aa.stay (T:=55) (by decide) w4 W5 (some b) O4.out G5.out ao);have cC:=MY (bc.out W5 (fun _ _=>rfl) (by rw[<-F.2.2.2];exact HV.runs.below B5.out) HV.runl (fun y _ u hu=>by simp only[cQ,Og,Oh,or_false]at hu;rcases hu with rfl|rfl|rfl <;> rfl) (fun y d=>ma _ y d) (IQ s r RB x.runs W5 (HR.below B5.out) (HB.below B5.out HB.lt)));obtain⟨dr,dn⟩:=aR (j:=14) K5.out ag.out (v:= .slice A4 n4 k4) (by rw[av,an,<-F.2.2.2];rfl);go_wp2_with fail;refine cC.mono ?_;intro e w6 h6;have h6:=h6.list;have aA:=h6.1;have h3:=h6.2;have cw:=MY (cv.trans (aA.mono (NS K5.lt)));have K6:=MY (K5.below aA K5.lt);have G6:=MY (fO G5.out (qH aA (some b)));have Q2:=MY (P2.below aA (No _));have Q3:=MY (P3.below aA (No _));have Q4:=MY (P4.below aA (No _))
 cases e1:mapO (nX s) x.runs with
 |none=>
  rw[e1]at h3 ad
  simp only at h3
  subst h3
  obtain rfl:none=fo:=ad.out
  exact⟨rfl,rfl,cw.out⟩
 |some dk=>
 rw[e1]at h3 ad;obtain⟨v6,rfl,ac⟩:=h3;have O6:=MY (ac.less (B5.size));obtain⟨S6,l6,q6,ev,_⟩:=gk ac;subst ev;obtain⟨dr,dn⟩:=aR (j:=14) K6.out ag.out (v:= .slice A4 n4 k4) (by rw[av,an,<-F.2.2.2];rfl);go_wp2_with fail;go_end0;obtain rfl:some _=fo:=ad.out;have ao:∀r',some b=some r'->∃cs fr,w6.heap[r']? = some (.cells cs 55 fr):=fun r' e=>by cases e;exact⟨_,_,K6.out⟩
 have g7:=cL (i:=o+14) (fm w6 (some b)) (.slice S6 l6 q6);refine⟨rfl,fO (fO G1.out (fO (qH (bt.out) (some b)) G6.out)) g7,{x2 with runv:= .slice S6 l6 q6,runs:=dk},⟨?_,?_,?_,?_,?_⟩,?_⟩
 ·rw[av,an];rfl
 ·have:=aa.stay (T:=55) (by decide) w6 _ (some b) Q2.out g7 ao;rw[av];exact this
 ·have:=aa.stay (T:=55) (by decide) w6 _ (some b) Q3.out g7 ao;rw[av];exact this
 ·have:=aa.stay (T:=55) (by decide) w6 _ (some b) Q4.out g7 ao;rw[av];exact this
 ·exact aa.stay (T:=55) (by decide) w6 _ (some b) O6.out g7 ao
 ·exact dK K6.out ag.out (j:=14) (by show 14<17;decide) _
end Go.Proofs.YtgbbhcbkldhjiaaGreatDoor
