import Derived.Test.YtgbbhcbkldhjiaaGreatDoorK09
import Derived.Test.YtgbbhcbkldhjiaaGreatDoorK06
import Derived.Test.YtgbbhcbkldhjiaaGreatDoorK10
set_option linter.all false
set_option maxRecDepth 100000
set_option maxHeartbeats 16000000
namespace Go.Proofs.YtgbbhcbkldhjiaaGreatDoor
open Go.Proofs.Tryz Go.RowKit Bf
def Bh{α β:Type}(g:α->β):∀l:List α,mapO (fun x=>some (g x)) l=some (l.map g)
 |[]=>rfl
 |x::l=>by simp only[mapO,Bh g l,NP]
def uU{α β:Type}{f:α->β}{ys:List α}{ds:List β}(hl:ys.length=ds.length)(h:∀(i:Nat)(y:α) (d:β),ys[i]? = some y->ds[i]? = some d->f y=d):ys.map f=ds:=by
 apply List.ext_getElem?;intro i;rw[Ou];by_cases hi:i<ys.length
 ·obtain⟨y,hy⟩:∃y,ys[i]? = some y:=⟨ys[i],Nx hi⟩
  obtain⟨d,hd⟩:=gx (l:=ds) (i:=i);rw[hy,hd,<-h i y d hy hd];rfl
 ·rw[OJ (by omega),OJ (by omega)];rfl
def bS.and{T}{p q:World->Prop}(h:bS T p)(k:bS T q):bS T fun W=>p W/\q W:=fun W W' row a b c=>⟨h W W' row a.1 b c,k W W' row a.2 b c⟩
def bS.all{ι:Type}{T}{p:ι->World->Prop}(h:∀i,bS T (p i)):bS T fun W=>∀i,p i W:=fun W W' row a b c i=>h i W W' row (a i) b c
def dN{α δ:Type}(RX:α->δ->World->Prop)(ys:List α)(ds:List δ)(W:World):Prop:=∀(i:Nat)(y:α) (d:δ),ys[i]? = some y->ds[i]? = some d->RX y d W
def dN.stay{α δ:Type}{T}{RX:α->δ->World->Prop}(h:∀y d,bS T (RX y d))(ys:List α)(ds:List δ):bS T (dN RX ys ds):=fun W W' row a b c i y d h1 h2=>h y d W W' row (a i y d h1 h2) b c
def LY{s}{x}{d:jJ}(h:iz s x=some d):d.ifs.length=x.ifs.length/\d.ins.length=x.ins.length/\d.outs.length=x.outs.length/\d.runs.length=x.runs.length:=by
 unfold iz at h;simp only[Option.bind_eq_some_iff,Option.map_eq_some_iff]at h;obtain⟨_,_,_,_,l1,h1,l2,h2,l3,h3,l4,h4,rfl⟩:=h;exact⟨cA h1,cA h2,cA h3,cA h4⟩
def uV{w}{x:OptR}(h:RowC w 1 x.cv (x.choices.map bF)):((bX x).all fun v=>v.oneCell')=true:=by
 obtain⟨A,c,e⟩:=h.len;unfold bX;rw[e];rfl
def LZ{w}{x:ForbR}(h:RowC w 4 x.cv (x.conds.map aT)):((gc x).all fun v=>v.oneCell')=true:=by
 obtain⟨A,c,e⟩:=h.len;unfold gc;rw[e];rfl
def L0(s x:SrcR)(W:World):Prop:=∃p:World->Prop,bS 31 p/\bS 41 p/\p W/\∀V,p V->RowC V 8 s.uv (s.units.map aW)->ap V x
def L3(w:World)(s:SrcR)(o:Option lW)(e:Ending)(w':World):Prop:=
 eB w w'/\match o with
  |some d=>∃x:SrcR,e=.returned (.agg (srcC x).toArray)/\lX x=d/\x.uv=s.uv/\x.units=s.units/\L0 s x w'
  |none=>e=.panicked kH
def Frz(lo:Nat)(w1 W:World):Prop:=∀k,lo<=k->k<w1.heap.size->W.heap[k]? = w1.heap[k]?
def Bi(w1:World)(lo:Nat):gC where
 rw:=False
 p W F:=(Frz lo w1 W/\w1.heap.size<=W.heap.size)/\∀k,F k<->lo<=k/\k<w1.heap.size
 loc:=fun⟨⟨h1,h2⟩,h3⟩ h=>⟨⟨fun k a b=>(h.block k ((h3 k).2 ⟨a,b⟩)).trans (h1 k a b),Nv h2 h.size⟩,h3⟩
 lt:=fun⟨⟨_,h2⟩,h3⟩ k hk=>Nf ((h3 k).1 hk).2 h2
section
variable {As:List Asn} {W w1:World} {lo:Nat}
def Sta(p:World->Prop)(W:World):Prop:=bS 31 p/\bS 41 p/\p W
def Sta.and{p q:World->Prop}(h:Sta p W)(k:Sta q W):Sta (fun V=>p V/\q V) W:=⟨h.1.and k.1,h.2.1.and k.2.1,h.2.2,k.2.2⟩
def Sta.own{B k:Nat}{e}{v}{L:List (List Value)}(h:aa W B e k v L)(h1:e≠31:=by decide)(h2:e≠41:=by decide):Sta (fun V=>aa V B e k v L) W:=⟨aa.stay h1,aa.stay h2,h⟩
def Sep.frz(M:Sep As W)(hb:eB W w1):Sep (.any (Bi w1 W.heap.size)::As) w1:=M.push hb (G:=fun k=>W.heap.size<=k/\k<w1.heap.size) ⟨⟨fun _ _ _=>rfl,No _⟩,fun _=>Iff.rfl⟩ fun k hk=>hk.1
def Sep.fz(M:Sep As W)(i:Nat)(h:As[i]? = some (.any (Bi w1 lo)):=by rfl):Frz lo w1 W:=let ⟨_,h1,_⟩:=M;(h1 i _ h).1.1
def aa.frz{T}{k:Nat}{v}{L:List (List Value)}(h:aa w1 lo T k v L)(hf:Frz lo w1 W):aa W lo T k v L:=h.of_block fun g e=>hf g (h.ge e) (h.lt e)
def dN.frz{α δ:Type}{RX:α->δ->World->Prop}{ys:List α}{ds:List δ}(h:dN RX ys ds w1)(hx:∀y d,RX y d w1->RX y d W):dN RX ys ds W:=fun i y d a b=>hx y d (h i y d a b)
end
def L4{w W}{s}{B1 B2 B3:Nat}{v1 v2 v3 v4 v5 v6 v7}{d1:List dP}{d3:List eW}{y4:List OptR}{y5:List ForbR}{y6:List RecR}{d7:List fD}{d5:List (List aP)}{d6:List jJ}(hS:ap w s)(hb:RowC W 8 s.uv (s.units.map aW))(o1:RowC W 6 v1 (d1.map dw))(o2:RowC W 1 v2 (s.plants.map bF))(o3:RowC W 4 v3 (d3.map dF))(o4:RowC W 2 v4 (y4.map bX))(o5:RowC W 1 v5 (y5.map gc))(o6:RowC W 17 v6 (y6.map am))(o7:RowC W 4 v7 (d7.map eX))(h1:mapO (kD s) s.items=some d1)(h3:mapO (kE s) s.machs=some d3)(h5:mapO (fun f:ForbR=>mapO (fh s) f.conds) s.forbs=some d5)(h6:mapO (iz s) s.recs=some d6)(h7:mapO (kF s) s.swaps=some d7)(l4:y4.length=(s.opts.map optD).length)(l5:y5.length=d5.length)(l6:y6.length=d6.length)(r4:dN (n9 B1) y4 (s.opts.map optD) W)(r5:dN (nZ B2) y5 d5 W)(r6:dN (oa B3) y6 d6 W) :ap W {s with iv:=v1,items:=d1,pv:=v2,plants:=s.plants,mv:=v3,machs:=d3,ov:=v4,opts:=y4,fv:=v5,forbs:=y5,rv:=v6,recs:=y6,sv:=v7,swaps:=d7}:=by
 have e1:=cA h1;have e3:=cA h3;have e5:=cA h5;have e6:=cA h6;have e7:=cA h7;rw[N6]at l4;have u1:=hS.il;have u2:=hS.pl;have u3:=hS.ml;have u4:=hS.ol;have u5:=hS.fl;have u6:=hS.rl;have u7:=hS.sl;unfold BIG at *;refine⟨hb,o1,o2,o3,o4,o5,o6,o7,?_,?_,?_,hS.ul,by show _<=1048576;rw[e1];exact u1,u2,by show _<=1048576;rw[e3];exact u3,by show _<=1048576;rw[l4];exact u4,by show _<=1048576;rw[l5,e5];exact u5,by show _<=1048576;rw[l6,e6];exact u6,by show _<=1048576;rw[e7];exact u7⟩
 ·intro o (ho:o∈y4);obtain⟨i,hi⟩:=List.getElem?_of_mem ho;have ab:=(NQ.1 hi).1;obtain⟨p,hp⟩:=gx (l:=s.opts) (i:=i);obtain⟨he,hw⟩:=r4 i o (optD p) hi (by rw[Ou,hp];rfl);have hc:o.choices=p.choices:=(Prod.mk.inj he).2;exact⟨hw.row,by show _<=1048576;rw[hc];exact(hS.opt p (Oc hp)).2⟩
 ·intro f (hf:f∈y5);obtain⟨i,hi⟩:=List.getElem?_of_mem hf;have ab:=(NQ.1 hi).1;obtain⟨p,hp⟩:=gx (l:=s.forbs) (i:=i);obtain⟨d,hd,he⟩:=nR h5 hp;obtain⟨hc,hw⟩:=r5 i f d hi hd;have hl:=cA he;refine⟨by rw[hc];exact hw.row,by show _<=1048576;rw[hc,hl];exact(hS.forb p (Oc hp)).2⟩
 ·intro q (hq:q∈y6);obtain⟨i,hi⟩:=List.getElem?_of_mem hq;have ab:=(NQ.1 hi).1;obtain⟨p,hp⟩:=gx (l:=s.recs) (i:=i);obtain⟨d,hd,he⟩:=nR h6 hp;have hx:=r6 i q d hi hd;obtain⟨k1,k2,k3,k4⟩:=LY he;have hv:=hS.recv p (Oc hp);have hq:=hx.eq;have g1:=hv.ifl;have g2:=hv.inl;have g3:=hv.outl;have g4:=hv.runl;unfold BIG at *;subst hq;exact⟨hx.ifs.row,hx.ins.row,hx.outs.row,hx.runs.row,by show q.ifs.length<=1048576;have:q.ifs.length=p.ifs.length:=k1;omega,by show q.ins.length<=1048576;have:q.ins.length=p.ins.length:=k2;omega,by show q.outs.length<=1048576;have:q.outs.length=p.outs.length:=k3;omega,by show q.runs.length<=1048576;have:q.runs.length=p.runs.length:=k4;omega⟩
def L8(s)(r:RsR)(w)(hR:dj w s r)(hS:ap w s):Calls prog 119 #[.agg (rsC r).toArray,.agg (srcC s).toArray] w (L3 w s (iA s s.units)):=by
 have ad:=mF;obtain⟨fo,ac⟩:=nm (iA s s.units);rw[ac];replace ac:=MY ac;have ab:=ac;unfold iA at ab;clear ac;have M:=Sep.new w;change Calls _ _ #[_,.agg [s.uv,s.iv,s.pv,s.mv,s.ov,s.fv,s.rv,s.sv].toArray] _ _;obtain⟨A0,c0,e0⟩:=hS.units.len;rw[e0];go_enter func119,ntmps119;go_wp2_with refine mz M fun M=>?_;refine(ID _ #[.pointer (some ⟨_,0,none⟩)] (fun y d _=>y=d) (kD s) s.iv s.items _ (fun _ _=>rfl) (hS.items.below M.bel) hS.il (fun x _ u hu=>by simp only[dw,Og,Oh,or_false]at hu;rcases hu with rfl|rfl|rfl|rfl|rfl|rfl <;> rfl) (fun y d=>ma _ y d) (IN s r _ s.items _ (hR.below M.bel) (M.blk inferInstance))).mono ?_;intro e w1 hq;obtain⟨hb,h3⟩:=hq.list;replace M:=M.frz hb;clear hb
 cases e1:mapO (kD s) s.items with
 |none=>
  rw[e1]at h3 ab
  simp only at h3
  subst h3
  obtain rfl:none=fo:=ab.out
  exact⟨rfl,M.bel,rfl⟩
 |some d1=>
 rw[e1]at h3 ab;replace e1:=MY e1;obtain⟨_,rfl,O1⟩:=h3;obtain⟨_,_,_,rfl,_⟩:=gk O1;replace O1:=MY O1;go_wp2_with refine mz M fun M=>?_;refine(zu s.pv s.plants _ (hS.plants.below M.bel) hS.pl (fun x _ u hu=>by simp only[bF,Oi]at hu;subst hu;rfl)).mono ?_;intro e w1 h3;obtain⟨hb,h3⟩:=h3;replace M:=M.frz hb;clear hb;obtain⟨_,rfl,O2⟩:=h3;obtain⟨_,_,_,rfl,_⟩:=gk O2;replace O2:=MY O2;go_wp2_with refine mz M fun M=>?_;refine(IE _ #[.pointer (some ⟨_,0,none⟩)] (fun y d _=>y=d) (kE s) s.mv s.machs _ (fun _ _=>rfl) (hS.machs.below M.bel) hS.ml (fun x _ u hu=>by simp only[dF,Og,Oh,or_false]at hu;rcases hu with rfl|rfl|rfl|rfl <;> rfl) (fun y d=>ma _ y d) (IP s r _ s.machs _ (hR.below M.bel) (M.blk inferInstance))).mono ?_;intro e w1 hq;obtain⟨hb,h3⟩:=hq.list;replace M:=M.frz hb;clear hb
 cases e3:mapO (kE s) s.machs with
 |none=>
  rw[e3]at h3 ab
  simp only at h3
  subst h3
  obtain rfl:none=fo:=ab.out
  exact⟨rfl,M.bel,rfl⟩
 |some d3=>
 rw[e3]at h3 ab;replace e3:=MY e3;obtain⟨_,rfl,O3⟩:=h3;obtain⟨_,_,_,rfl,_⟩:=gk O3;replace O3:=MY O3;go_wp2_with refine mz M fun M=>?_;refine(IF _ #[] (n9 _) (fun x=>some (optD x)) s.ov s.opts _ (fun _ _=>rfl) (hS.opts.below M.bel) hS.ol (fun x hx u hu=>Od.1 (uV (hS.opt x hx).1) u hu) (fun y d=>t7 (by decide) _ y d) (IU s.opts _ (fun o ho=>⟨(hS.opt o ho).1.below M.bel,(hS.opt o ho).2⟩))).mono ?_;intro e w1 hq;obtain⟨hb,h3⟩:=hq;replace M:=M.frz hb;clear hb;rw[Bh]at h3;obtain⟨_,y4,rfl,O4,l4,r4⟩:=h3;obtain⟨_,_,_,rfl,_⟩:=gk O4;replace O4:=MY O4;replace r4:Hid (dN (n9 _) y4 _ _):=r4;go_wp2_with refine mz M fun M=>?_;refine(IG _ #[.pointer (some ⟨_,0,none⟩)] (nZ _) (fun f:ForbR=>mapO (fh s) f.conds) s.fv s.forbs _ (fun _ _=>rfl) (hS.forbs.below M.bel) hS.fl (fun x hx u hu=>Od.1 (LZ (hS.forb x hx).1) u hu) (fun y d=>t6 (by decide) _ y d) (IV s r _ s.forbs _ (hR.below M.bel) (M.blk inferInstance) (fun o ho=>⟨(hS.forb o ho).1.below M.bel,(hS.forb o ho).2⟩))).mono ?_;intro e w1 hq;obtain⟨hb,h3⟩:=hq;replace M:=M.frz hb;clear hb
 cases e5:mapO (fun f:ForbR=>mapO (fh s) f.conds) s.forbs with
 |none=>
  rw[e5]at h3 ab
  simp only at h3
  subst h3
  obtain rfl:none=fo:=ab.out
  exact⟨rfl,M.bel,rfl⟩
 |some d5=>
 rw[e5]at h3 ab;replace e5:=MY e5;obtain⟨_,y5,rfl,O5,l5,r5⟩:=h3;obtain⟨_,_,_,rfl,_⟩:=gk O5;replace O5:=MY O5;replace r5:Hid (dN (nZ _) y5 _ _):=r5;go_wp2_with refine mz M fun M=>?_;refine(II _ #[.pointer (some ⟨_,0,none⟩)] (oa _) (iz s) s.rv s.recs _ (fun _ _=>rfl) (hS.recs.below M.bel) hS.rl (fun x hx u hu=>Od.1 (io (hS.recv x hx)) u hu) (fun y d=>ua (by decide) (by decide) (by decide) _ y d) (IW s r _ s.recs _ (hR.below M.bel) (M.blk inferInstance) (fun o ho=>(hS.recv o ho).below M.bel))).mono ?_;intro e w1 hq;obtain⟨hb,h3⟩:=hq;replace M:=M.frz hb;clear hb
 cases e6:mapO (iz s) s.recs with
 |none=>
  rw[e6]at h3 ab
  simp only at h3
  subst h3
  obtain rfl:none=fo:=ab.out
  exact⟨rfl,M.bel,rfl⟩
 |some d6=>
 rw[e6]at h3 ab;replace e6:=MY e6;obtain⟨_,y6,rfl,O6,l6,r6⟩:=h3;obtain⟨_,_,_,rfl,_⟩:=gk O6;replace O6:=MY O6;replace r6:Hid (dN (oa _) y6 _ _):=r6;go_wp2_with refine mz M fun M=>?_;refine(IJ _ #[.pointer (some ⟨_,0,none⟩)] (fun y d _=>y=d) (kF s) s.sv s.swaps _ (fun _ _=>rfl) (hS.swaps.below M.bel) hS.sl (fun x _ u hu=>by simp only[eX,Og,Oh,or_false]at hu;rcases hu with rfl|rfl|rfl|rfl <;> rfl) (fun y d=>ma _ y d) (IS s r _ s.swaps _ (hR.below M.bel) (M.blk inferInstance))).mono ?_;intro e w1 hq;obtain⟨hb,h3⟩:=hq.list;replace M:=M.frz hb;clear hb
 cases e7:mapO (kF s) s.swaps with
 |none=>
  rw[e7]at h3 ab
  simp only at h3
  subst h3
  obtain rfl:none=fo:=ab.out
  exact⟨rfl,M.bel,rfl⟩
 |some d7=>
 rw[e7]at h3 ab;replace e7:=MY e7;obtain⟨_,rfl,O7⟩:=h3;obtain⟨_,_,_,rfl,_⟩:=gk O7;replace O7:=MY O7;go_wp2_with refine mz M fun M=>?_;obtain rfl:some (lW.mk s.units d1 s.plants d3 (s.opts.map optD) d5 d6 d7)=fo:=ab.out;have r4:=r4.frz fun y d h=>⟨h.1,h.2.frz (M.fz 3)⟩
 have r5:=r5.frz fun y d h=>⟨h.1,h.2.frz (M.fz 2)⟩
 have r6:=r6.frz fun y d h=>⟨h.eq,h.ifs.frz (M.fz 1),h.ins.frz (M.fz 1),h.outs.frz (M.fz 1),h.runs.frz (M.fz 1)⟩
 have HP:=(Sta.own (O1.frz (M.fz 6))).and ((Sta.own (O2.frz (M.fz 5))).and ((Sta.own (O3.frz (M.fz 4))).and ((Sta.own (O4.frz (M.fz 3))).and ((Sta.own (O5.frz (M.fz 2))).and ((Sta.own (O6.frz (M.fz 1))).and ((Sta.own (O7.frz (M.fz 0))).and (Sta.and ⟨dN.stay (fun y d=>t7 (by decide) _ y d) _ _,dN.stay (fun y d=>t7 (by decide) _ y d) _ _,r4⟩ (Sta.and ⟨dN.stay (fun y d=>t6 (by decide) _ y d) _ _,dN.stay (fun y d=>t6 (by decide) _ y d) _ _,r5⟩ ⟨dN.stay (fun y d=>ua (by decide) (by decide) (by decide) _ y d) _ _,dN.stay (fun y d=>ua (by decide) (by decide) (by decide) _ y d) _ _,r6⟩))))))));refine mr M ?_;refine⟨M.bel,{s with iv:=_,items:=d1,pv:=_,plants:=s.plants,mv:=_,machs:=d3,ov:=_,opts:=y4,fv:=_,forbs:=y5,rv:=_,recs:=y6,sv:=_,swaps:=d7},by unfold srcC;rw[e0];rfl,?_,rfl,rfl,_,HP.1,HP.2.1,HP.2.2,fun V ⟨p1,p2,p3,p4,p5,p6,p7,q4,q5,q6⟩ hu=>L4 hS hu p1.row p2.row p3.row p4.row p5.row p6.row p7.row e1.out e3.out e5.out e6.out e7.out l4 l5 l6 q4 q5 q6⟩;show lW.mk s.units d1 s.plants d3 (y4.map optD) (y5.map (·.conds)) (y6.map lT) d7=_;rw[uU l4 (fun i y d a b=>(r4 i y d a b).1),uU l5 (fun i y d a b=>(r5 i y d a b).1),uU l6 (fun i y d a b=>(r6 i y d a b).eq)]
section
open Go.ChangeMaps (setBlock)
def kR(w:World)(M:List ByteArray)(e:Ending)(w':World):Prop:=
 eB w w'/\∃(b:Nat) (kv:List (Value×Value)) (tw:Bool),e=.returned (.tuple #[.map (some b),.bool tw])/\w.heap.size<=b/\aK w' b kv/\fN kv M/\(tw=false<->M.Nodup)
structure jQ(M:List ByteArray)(kv:List (Value×Value))(tw:Bool):Prop where
 kf:fN kv M
 tw:tw=false<->M.Nodup
def uW{M:List ByteArray}{x:ByteArray}:(M++[x]).Nodup<->M.Nodup/\¬x∈M:=by
 rw[List.nodup_append];constructor
 ·rintro⟨h1,_,h3⟩;exact⟨h1,fun hx=>h3 x hx x (by simp) rfl⟩
 ·rintro⟨h1,h2⟩;refine⟨h1,by simp,fun a ha b hb e=>?_⟩;rw[Oi]at hb;exact h2 (by rw[<-hb,<-e];exact ha)
def jQ.old{M}{kv:List (Value×Value)}{tw:Bool}{x}(h:jQ M kv tw)(hx:(aD kv (.string x)).isSome=true):jQ (M++[x]) kv true:=
 ⟨(h.kf.old hx).1,⟨fun h=>by(cases h),fun hn=>absurd (h.kf.old hx).2 (uW.1 hn).2⟩⟩
def jQ.new{M}{kv:List (Value×Value)}{tw:Bool}{x}(h:jQ M kv tw)(hx:(aD kv (.string x)).isSome=false):jQ (M++[x]) (aF kv (.string x) (.int .i64 (M.length:Int))) tw:=
 ⟨(h.kf.new hx).1,⟨fun ht=>uW.2 ⟨h.tw.1 ht,(h.kf.new hx).2⟩,fun hn=>h.tw.2 (uW.1 hn).1⟩⟩
instance:mq prog 9 KdS:=⟨tW _ _ underlying9⟩
def kS{α:Type}(g:FuncId)(ab:α->Value)(nm:α->ByteArray):Prop:=∀x w,Calls prog g #[ab x] w (Ret w (.string (nm x)))
def oD:kS 159 (fun x=> .agg (aW x).toArray) aC.name/\kS 161 (fun x=> .agg (dw x).toArray) dP.name/\kS 165 (fun x=> .agg (dF x).toArray) eW.name/\kS 167 (fun x=> .agg (bX x).toArray) OptR.name/\kS 163 .string id:=by
 refine⟨?_,?_,?_,?_,?_⟩;all_goals
  intro x w
  have M:=Sep.new w
  try dsimp only
  first|go_enter func159,ntmps159|go_enter func161,ntmps161|go_enter func165,ntmps165|go_enter func167,ntmps167|go_enter func163,ntmps163
  go_wp2_with refine mz M fun M=>?_
  exact mr M ⟨rfl,M.bel⟩
def oE{α:Type}(f g:FuncId)(k:Nat)(enc:α->List Value)(ab:α->Value):Prop:=∀(nm:α->ByteArray)(v:Value) (L:List α) (w:World),kS g ab nm->RowC w k v (L.map enc)->L.length<=1048576->(∀x∈L,((enc x).all fun v=>v.oneCell')=true)->Calls prog f #[v,.func (.func g) #[] #[]] w (kR w (L.map nm))
def oF:oE 158 159 8 aW (fun x=> .agg (aW x).toArray)/\oE 160 161 6 dw (fun x=> .agg (dw x).toArray)/\oE 164 165 4 dF (fun x=> .agg (dF x).toArray)/\oE 166 167 2 bX (fun x=> .agg (bX x).toArray)/\oE 162 163 1 bF .string:=by
 refine⟨?_,?_,?_,?_,?_⟩;all_goals
  intro nm v L w hc hL hl h1
  dsimp only[kS]at hc
  haveI hR:ah w v _ _ L _:=⟨hL,hl⟩
  obtain⟨A,c,rfl⟩:=hR.sl
  have M:=Sep.new w
  have D0:Hid (jQ [] [] false):=⟨fN.nil,by simp⟩
  obtain⟨N,hN⟩:∃N,L.map nm=N:=⟨_,rfl⟩
  have ab:N.length=L.length:=by rw[<-hN,N6]
  rw[hN]
  replace hN:=MY hN
  replace ab:=MY ab
  first|go_enter func158,ntmps158|go_enter func160,ntmps160|go_enter func164,ntmps164|go_enter func166,ntmps166|go_enter func162,ntmps162
  go_wp2_with(first|(refine ml M ?_)|refine mu M fun M=>?_|refine mK M fun M=>?_|refine mz M fun M=>?_)
  go_loopw [5,13] (fun y z W=>∃(k:Nat) (kv:List (Value×Value)) (tw:Bool),k<=L.length/\z=.int .i64 k/\y=.bool tw/\Hid (jQ (N.take k) kv tw)/\M.m0 kv W) (fun _ z _=>L.length-(intOf z).toNat)
  case atStart=>exact⟨0,[],false,Nu _,rfl,rfl,D0,M⟩
  clear D0
  obtain⟨k,kv,tw,hk,rfl,rfl,S,M⟩:=hrel
  simp only[Sep.m0]at M
  by_cases ad:k<L.length
  case neg=>
   rw[Ny (by rw[ab.out];omega)]at S
   go_wp2_with(first|(refine ml M ?_)|refine mu M fun M=>?_|refine mK M fun M=>?_|refine mz M fun M=>?_)
   refine mr M ?_
   exact⟨M.bel,_,kv,tw,rfl,M.mge,(M.mp (i:=0) ⟨rfl⟩).1,S.kf,S.tw⟩
  obtain⟨x,hx⟩:=gx (l:=L) (i:=k) ad
  haveI:=Fct.mk (h1 x (Oc hx))
  have hn:N[k]? = some (nm x):=by rw[<-hN.out,Ou,hx];rfl
  have hT:N.take (k+1)=N.take k++[nm x]:=by rw[Ox,hn];rfl
  have ac:(N.take k).length=k:=by rw[Nz,ab.out];omega
  replace hT:=MY hT
  replace ac:=MY ac
  haveI:∀As,aB _ _ #[_] As _:=fun As=>⟨fun W _=>hc x W⟩
  clear hn hc
  cases hg:aD kv (.string (nm x))
  all_goals
   have HG:=MY hg
   clear hg
   go_wp2_with(first|(refine ml M ?_)|refine mu M fun M=>?_|refine mK M fun M=>?_|refine mz M fun M=>?_)
  ·have:=S.new (x:=nm x) (by rw[HG.out];rfl)
   rw[ac.out,<-hT.out]at this
   go_roundw
   case rel=>exact⟨k+1,_,tw,by omega,by go_num,rfl,this,by first|exact M.tl|exact M⟩
   case measure=>simp[intOf];omega
  ·have:=S.old (x:=nm x) (by rw[HG.out];rfl)
   rw[<-hT.out]at this
   go_roundw
   case rel=>exact⟨k+1,kv,true,by omega,by go_num,rfl,this,by first|exact M.tl|exact M⟩
   case measure=>simp[intOf];omega
def Ma(v)(L:List aC)(w)(hL:RowC w 8 v (L.map aW))(hl:L.length<=1048576):Calls prog 158 #[v,.func (.func 159) #[] #[]] w (kR w (L.map (·.name))):=oF.1 _ v L w oD.1 hL hl fun _ _=>rfl
def Mb(v)(L:List dP)(w)(hL:RowC w 6 v (L.map dw))(hl:L.length<=1048576):Calls prog 160 #[v,.func (.func 161) #[] #[]] w (kR w (L.map (·.name))):=oF.2.1 _ v L w oD.2.1 hL hl fun _ _=>rfl
def Mc(v)(L:List eW)(w)(hL:RowC w 4 v (L.map dF))(hl:L.length<=1048576):Calls prog 164 #[v,.func (.func 165) #[] #[]] w (kR w (L.map (·.name))):=oF.2.2.1 _ v L w oD.2.2.1 hL hl fun _ _=>rfl
def Md(v)(L:List OptR)(w)(hL:RowC w 2 v (L.map bX))(hl:L.length<=1048576)(h1:∀x∈L,((bX x).all fun v=>v.oneCell')=true):Calls prog 166 #[v,.func (.func 167) #[] #[]] w (kR w (L.map (·.name))):=oF.2.2.2.1 _ v L w oD.2.2.2.1 hL hl h1
def Bj(v)(L:List ByteArray)(w)(hL:RowC w 1 v (L.map bF))(hl:L.length<=1048576):Calls prog 162 #[v,.func (.func 163) #[] #[]] w (kR w L):=by simpa using oF.2.2.2.2 _ v L w oD.2.2.2.2 hL hl fun _ _=>rfl
end
def Me(b:Nat)(L:List Bool)(T)(w)(h:Blk w b (L.map Value.bool) T)(hl:L.length<=1000):Calls prog 219 #[.slice b L.length L.length,.bool true] w fun e w'=>(∃k:Int,e=.returned (.int .i64 k)/\(0<=k<->true∈L))/\w'=w:=by
 have H:=MY h;obtain⟨n,hn⟩:=nm L.length;rw[hn]at hl⊢;have HN:=MY hn;clear h hn;go_enter func219,ntmps219;go_wp2_with fail;go_loopw [8] (fun z W=>∃k:Nat,k<=n/\z=.int .i64 k/\Hid (¬true∈L.take k)/\W=w) (fun z _=>n-(intOf z).toNat)
 case atStart=>exact⟨0,Nu _,rfl,by simp[Hid],rfl⟩
 case round=>
  obtain⟨k,hk,rfl,HT,rfl⟩:=hrel;by_cases ag:k<n
  case neg=>
   obtain rfl:n=k:=by omega
   go_wp2_with fail;refine bodyPost_ret (v:= .int .i64 (-1)) (by simp[results,results219,go_sem]) rfl ⟨⟨-1,rfl,⟨fun h=>absurd h (by decide),fun h=>absurd (by rw[Ny (by rw[HN.out];exact No _)];exact h) HT.out⟩⟩,rfl⟩
  obtain⟨x,hx⟩:=gx (l:=L) (i:=k) (by have:=HN.out;omega);have q:=(H.at k _ (by rw[Ou,hx];rfl)).1;obtain⟨ac,ad⟩:=ix (k:=k) (n:=n);have HX:=MY hx;clear hx
  cases x with
  |true=>
   go_wp2_with fail
   refine bodyPost_ret (v:= .int .i64 (k:Int)) (by simp[results,results219,go_sem]) rfl ⟨⟨k,rfl,⟨fun _=>Oc HX.out,fun _=>ac⟩⟩,rfl⟩
  |false=>
   have ab:Hid (¬true∈L.take (k+1)):=by
    show ¬_;rw[Ox,HX.out];simp only[Option.toList_some,Of,Oi,not_or];exact⟨HT.out,by decide⟩
   go_wp2
   go_roundw
   case rel=>exact⟨k+1,by omega,by go_num,ab.out,by first|rfl|trivial⟩
   case measure=>simp[intOf];omega
def Mf(b:Nat)(L:List Bool)(T)(w)(h:Blk w b (L.map Value.bool) T)(hl:L.length<=1000):Calls prog 168 #[.slice b L.length L.length,.bool true] w fun e w'=>e=.returned (.bool (decide (true∈L)))/\w'=w:=by
 have HI:=MY (Me b L T w h hl);obtain⟨n,hn⟩:=nm L.length;rw[hn]at HI⊢;obtain⟨p,hp⟩:=nm (decide (true∈L));have HP:=MY hp;rw[hp];clear hl hn h hp;go_enter func168,ntmps168;go_wp2_with fail;refine HI.mono ?_;rintro e w1 ⟨⟨k,rfl,hk⟩,rfl⟩;have e1:decide (0<=k)=p:=by rw[<-HP.out];exact decide_eq_decide.2 hk
 have e2:(!decide (k<0))=p:=by rw[<-e1];by_cases h:0<=k <;> simp[h] <;> omega
 clear hk;go_wp2_with fail;refine bodyPost_ret (v:= .bool p) (by simp[results,results168,go_sem]) rfl ⟨by first|rfl|(rw[e1])|(rw[e2]),rfl⟩
def rf(b:Nat)(N:List ByteArray):gC where
 rw:=False
 p W F:=dJ W b N/\∀k,F k<->k=b
 loc:=fun⟨⟨kv,h1,h2⟩,h3⟩ h=>⟨⟨kv,(h.block b ((h3 b).2 rfl)).trans h1,h2⟩,h3⟩
 lt:=fun⟨⟨_,h1,_⟩,h3⟩ k hk=>by rw[(h3 k).1 hk];exact h1.lt
def oG(bs:List Nat)(Ns:List (List ByteArray)):gC where
 rw:=False
 p W F:=(∀(k b:Nat)(N:List ByteArray),bs[k]? = some b->Ns[k]? = some N->dJ W b N/\F b)/\∀k,F k->k<W.heap.size
 loc:=fun⟨h1,h2⟩ h=>⟨fun k b N hb hN=>let ⟨⟨kv,a,c⟩,d⟩:=h1 k b N hb hN;⟨⟨kv,(h.block b d).trans a,c⟩,d⟩,fun k hk=>Nf (h2 k hk) h.size⟩
 lt:=fun⟨_,h2⟩=>h2
section
variable {As:List Asn} {A B C:Asn} {w W:World} {N:List ByteArray} {i b:Nat}
def Sep.coll{f:FuncId}{args}{X:Ending->World->Prop}(M:Sep As W)(h:Calls prog f args W (kR W N))(k:∀b tw W',(tw=false<->N.Nodup)->Sep (.any (rf b N)::As) W'->X (.returned (.tuple #[.map (some b),.bool tw])) W'):Calls prog f args W X:=
 h.mono fun _ W' ⟨hb,b,kv,tw,e,ab,hm,hk,ht⟩=>e▸k b tw W' ht (M.push hb (A:= .any (rf b N)) (G:=fun j=>j=b) ⟨⟨kv,hm,hk⟩,fun _=>Iff.rfl⟩ fun j hj=>by rw[hj];exact ab)
def Sep.nam(M:Sep As W)(i:Nat)(h:As[i]? = some (.any (rf b N)):=by rfl):dJ W b N:=let ⟨_,h1,_⟩:=M;(h1 i _ h).1
def Sep.nams0(M:Sep As W):Sep (.any (oG [] [])::As) W:=M.push (NB _ _) (G:=fun _=>False) ⟨fun _ _ _ h=>by simp at h,fun _ h=>h.elim⟩ fun _ h=>h.elim
def Sep.mrg(M:Sep (A::B::As) W)(hr:¬C.x.rw)(h:∀F G,A.x.p W F->B.x.p W G->C.x.p W (fun k=>F k\/G k)):Sep (C::As) W:=by
 obtain⟨F,h1,h2⟩:=M;refine⟨fun i=>match i with|0=>fun k=>F 0 k\/F 1 k|i+1=>F (i+2),fun i D hD=>?_,fun i j D E hD hE ad ac k hk ab=>?_⟩
 ·cases i with
  |zero=>cases hD;exact h _ _ (h1 0 _ rfl) (h1 1 _ rfl)
  |succ i=>exact h1 (i+2) D hD
 ·cases i with
  |zero=>cases hD;exact hr ac
  |succ i=>
   cases j with
   |zero=>
    rcases ab with ab|ab
    ·exact h2 (i+2) 0 D A hD rfl (by omega) ac k hk ab
    ·exact h2 (i+2) 1 D B hD rfl (by omega) ac k hk ab
   |succ j=>exact h2 (i+2) (j+2) D E hD hE (by omega) ac k hk ab
def Sep.nams1{bs:List Nat}{Ns:List (List ByteArray)}(M:Sep (.any (rf b N):: .any (oG bs Ns)::As) W)(hl:bs.length=Ns.length):Sep (.any (oG (bs++[b]) (Ns++[N]))::As) W:=
 M.mrg id fun F G ⟨h1,h2⟩ ⟨h3,h4⟩=>⟨fun k c O hc hO=>by
  by_cases hk:k<bs.length
  ·rw[N4 hk]at hc;rw[N4 (by omega)]at hO;exact(h3 k c O hc hO).imp id .inr
  ·have:=(NQ.1 hc).1;have ab:k=bs.length:=by simp at this;omega
   subst ab;rw[N5 (No _)]at hc;rw[N5 (by omega)]at hO;simp[hl]at hc hO;subst hc hO;exact⟨h1,.inl ((h2 _).2 rfl)⟩,fun k hk=>hk.elim (fun h=>by rw[(h2 k).1 h];obtain⟨_,h1,_⟩:=h1;exact h1.lt) (h4 k)⟩
def Sep.nms{bs:List Nat}{Ns:List (List ByteArray)}(M:Sep (.any (oG bs Ns)::As) W){k:Nat}(h:bs[k]? = some b)(hN:Ns[k]? = some N):dJ W b N:=let ⟨_,h1,_⟩:=M;((h1 0 _ rfl).1 k b N h hN).1
def Sep.gl(_:Sep (A::B::As) w)(bs:List Nat)(Ns:List (List ByteArray))(cv:Value)(i:Nat)(c:List Value)(W:World):Prop:=Sep (.any (oG bs Ns):: .row cv 195 1 (bs.map fun b=>[.map (some b)])::upC As i c) W
end
def Mg(w:World)(s:SrcR)(e:Ending)(w':World):Prop:=
 eB w w'/\∃(r:RsR)(tw:Bool),e=.returned (.tuple #[.agg (rsC r).toArray,.bool tw])/\(tw=false<->¬nY s)/\dj w' s r/\aa w' w.heap.size 195 1 (.slice r.A r.cms.length r.c) (r.cms.map fun b=>[.map (some b)])
def Mh(s)(w)(hS:ap w s):Calls prog 117 #[.agg (srcC s).toArray] w (Mg w s):=by
 haveI:=Fct.mk hS;have ad:=hS.ol;unfold BIG at ad;have M:=Sep.new w;go_enter func117,ntmps117;go_wp2_with refine mz M fun M=>?_;refine M.coll (Ma _ _ _ (hS.units.below M.bel) hS.ul) ?_;clear M;intro b1 t1 _ h1 M;replace h1:=MY h1;go_wp2_with refine mz M fun M=>?_;refine M.coll (Mb _ _ _ (hS.items.below M.bel) hS.il) ?_;clear M;intro b2 t2 _ h2 M;replace h2:=MY h2;go_wp2_with refine mz M fun M=>?_;refine M.coll (Bj _ _ _ (hS.plants.below M.bel) hS.pl) ?_;clear M;intro b3 t3 _ h3 M;replace h3:=MY h3;go_wp2_with refine mz M fun M=>?_;refine M.coll (Mc _ _ _ (hS.machs.below M.bel) hS.ml) ?_;clear M;intro b4 t4 _ h4 M;replace h4:=MY h4;go_wp2_with refine mz M fun M=>?_;refine M.coll (Md _ _ _ (hS.opts.below M.bel) hS.ol fun x hx=>uV (hS.opt x hx).1) ?_;clear M;intro b5 t5 _ h5 M;replace h5:=MY h5;go_wp2_with refine mz M fun M=>?_;refine(Mf _ [t1,t2,t3,t4,t5] _ _ (M.blk inferInstance) (by simp)).mono ?_;rintro e w' ⟨rfl,rfl⟩;obtain⟨L,hL⟩:=nm [t1,t2,t3,t4,t5];rw[hL];replace hL:=MY hL;go_wp2_with refine mz M fun M=>?_;replace M:=(M.nilR 195 1).nams0
 go_loopw [3,54] (fun y z W=>∃(k:Nat)(cms:List Nat) (cv:Value) (tw:Bool),k<=s.opts.length/\z=.int .i64 k/\y=.bool tw/\Hid (cms.length=k/\(tw=false<->¬true∈L/\∀o∈s.opts.take k,o.choices.Nodup))/\M.gl cms ((s.opts.take k).map (·.choices)) cv 6 [.map (some b1),.map (some b2),.map (some b3),.map (some b4),.map (some b5),cv] W) (fun _ z _=>s.opts.length-(intOf z).toNat)
 case atStart=>exact⟨0,[],_,_,Nu _,rfl,rfl,⟨rfl,by simp⟩,M⟩
 obtain⟨k,cms,cv,tw,hk,rfl,rfl,HT,M⟩:=hrel;simp only[Sep.gl,upC]at M;obtain⟨AV,nv,cc,rfl⟩:=M.rs 1;by_cases ab:k<s.opts.length
 case neg=>
  obtain rfl:k=s.opts.length:=by omega
  rw[OK]at M;go_wp2_with refine mz M fun M=>?_;have hO:=M.own1;have hn:nv=cms.length:=by
   obtain⟨A,c,e⟩:=hO.slice;have:=(Value.slice.inj e).2.1;rwa[N6]at this
  subst hn;refine mr M ⟨M.bel,⟨b1,b2,b3,b4,b5,AV,cc,cms⟩,tw,rfl,?_,⟨M.nam 6,M.nam 5,M.nam 4,M.nam 3,M.nam 2,HT.1,hO.row,fun j b o h1 h2=>M.nms h1 (by rw[Ou,h2];rfl)⟩,hO⟩;rw[HT.2,OK,<-hL.out];unfold nY kC gO nW lS;rw[Classical.not_not,<-h1.out,<-h2.out,<-h3.out,<-h4.out,<-h5.out]
  cases t1 <;> cases t2 <;> cases t3 <;> cases t4 <;> cases t5 <;> simp
 obtain⟨o,ho⟩:=gx (l:=s.opts) (i:=k) ab;have ac:=hS.opt o (Oc ho);haveI:=Fct.mk (uV ac.1);go_wp2_with refine mz M fun M=>?_;refine M.coll (Bj _ _ _ (ac.1.below M.bel) ac.2) ?_;clear M;intro bc ag _ ha M;have hT:s.opts.take (k+1)=s.opts.take k++[o]:=by rw[Ox,ho];rfl
 have HN:Hid ((cms++[bc]).length=k+1/\((tw||ag)=false<->¬true∈L/\∀o∈s.opts.take (k+1),o.choices.Nodup)):=⟨by simp[HT.1],by
  rw[Bool.or_eq_false_iff,HT.2,ha,hT];simp only[Of,Oi];exact⟨fun⟨⟨h1,h2⟩,h3⟩=>⟨h1,fun p hp=>hp.elim (h2 p) fun e=>e▸h3⟩,fun⟨h1,h2⟩=>⟨⟨h1,fun p hp=>h2 p (.inl hp)⟩,h2 o (.inr rfl)⟩⟩⟩
 have al:(cms.map fun b=>[Value.map (some b)]).length<=16777216:=by rw[N6,HT.1];omega
 replace hT:=MY hT;clear ha
 cases tw;all_goals
  go_wp2_with(first|refine mz M fun M=>?_|refine mp M fun M=>?_|refine mv M fun M=>?_)
  have M:=Sep.nams1 (M.pk [1,3,4,5,6,7,8,9,10,11,12,13]:Sep [_,_,_,_,_,_,_,_,_,_,_,_] _) (by rw[HT.1,N6,Nz,Nat.min_eq_left (NS ab)])
  go_roundw
  case rel=>exact⟨k+1,_,_,_,ab,by go_num,rfl,HN,by show Sep _ _;rw[hT.out,N9,N9];exact M⟩
  case measure=>simp[intOf];omega
end Go.Proofs.YtgbbhcbkldhjiaaGreatDoor
