import Derived.Test.YtgbbhcbkldhjiaaGreatDoorK04
set_option linter.all false
set_option maxRecDepth 100000
set_option maxHeartbeats 16000000
namespace Go.Proofs.YtgbbhcbkldhjiaaGreatDoor
open Go.Proofs.Tryz Go.RowKit Bf
section
open Go Go.RowKit
abbrev OP:=@List.length_singleton
end
def aa.of_new{w}{B g k:Nat}{T}{cells}{L:List (List Value)}(h:Blk w g cells T)(he:cells=L.flatten)(hk:∀c∈L,c.length=k)(hB:B<=g)(hl:L.length<=16777216):aa w B T k (.slice g L.length L.length) L:=by
 have hs:cells.length=L.length*k:=by rw[he];exact gK L k hk
 exact⟨⟨gK L k hk,.inr ⟨g,L.length,cells.toArray,rfl,hB,h,No _,by unfold maxLen;omega,by simpa using hs,by simp only[<-hs,he,OK]⟩⟩,hk⟩
def Gv:bE prog 73 72 6 64:=bE.mk' (z:= .agg #[.int .i64 0,.int .i64 0,.int .i64 0,.bool false,.string ⟨#[]⟩,.string ⟨#[]⟩]) underlying73 (by kernel_rfl) (by decide)
def dz(a b:Int):In:={op:=1,A:=a,B:=b,neg:=false,n:=⟨#[]⟩,d:=⟨#[]⟩}
def ct(r:RecR):List In:=[dz (-1) r.frm,dz (-2) r.til]++r.ifs.map fun c=>dz c.optNo c.chNo
def i7(r:RecR)(k:Nat):List In:=[dz (-1) r.frm,dz (-2) r.til]++(r.ifs.take k).map fun c=>dz c.optNo c.chNo
def Gw{r:RecR}{k:Nat}{c:aP}(h:r.ifs[k]? = some c):i7 r (k+1)=i7 r k++[dz c.optNo c.chNo]:=by
 unfold i7;rw[Ox,h,N9,OL];rfl
def Gx(r)(k:Nat):(i7 r k).length<=k+2:=by
 unfold i7;simp only[Oe,M6,ND,N6,Nz];omega
section
attribute [local go_sem] Oper.semAt_some
section
variable {T:TypeId} {β:Type} {D:Nat} {J:β->World->Prop} {s:β} {V V':World}
def AbX.belowJ(hJ:AbX D T J)(h:J s V)(hb:eB V V'):J s V':=hJ s V V' none h ⟨hb.os,hb.tape,hb.output,hb.size,fun k hk _=>hb.block k hk⟩ (fun r e=>by cases e)
def gh(W:World)(b i:Nat)(v):W.grownBy (W.setCell ⟨b,i,none⟩ v) (some b):=
 ⟨rfl,rfl,rfl,(KeepsWalks.setCell W ⟨b,i,none⟩ v).size,fun k _ hk=>NF W ⟨b,i,none⟩ v k (fun e=>hk (by rw[e]))⟩
def AbX.setJ(hJ:AbX D T J)(h:J s V){b:Nat}{l}(hb:Blk V b l T)(hD:D<=b)(i:Nat)(v):J s (V.setCell ⟨b,i,none⟩ v):=
 hJ s V _ (some b) h (gh V b i v) (fun r e=>by cases e;exact⟨hD,_,hb,.inr ⟨_,_,rfl⟩⟩)
end
def aa.keepT{w w'}{B k:Nat}{T}{v}{L:List (List Value)}(h:aa w B T k v L)(hk:aI T w w'):aa w' B T k v L:=by
 obtain⟨⟨h1,h2⟩,h3⟩:=h;refine⟨⟨h1,?_⟩,h3⟩;rcases h2 with h2|⟨g,cap,cur,e,hg,hc,r⟩
 ·exact .inl h2
 ·exact .inr ⟨g,cap,cur,e,hg,hk _ _ _ hc,r⟩
def aa.off{w}{B b i k:Nat}{T}{v}{L:List (List Value)}(h:aa w B T k v L)(hb:b<B)(u):aa (w.setCell ⟨b,i,none⟩ u) B T k v L:=
 h.of_block fun _ hg=>NF _ _ _ _ (by have:=h.ge hg;show _≠b;omega)
def pZ(W:World)(b:Nat):List Int:=match W.heap[b]? with|some (.cells cs _ _)=>cs.toList.map intOf|_=>[]
def yt{W}{b:Nat}{c:List Int}{T}(h:Blk W b (c.map bY) T):pZ W b=c:=by
 have h':W.heap[b]? = some (.cells (c.map bY).toArray T (0,0)):=h;simp only[pZ,h',List.map_map];exact(List.map_congr_left (fun _ _=>rfl)).trans (List.map_id c)
structure CfR where
 a:Option Addr
 n:Nat
 k:Nat
 c:List Int
def CfR.v(x:CfR):Value:= .slice x.a x.n x.k
structure OSt(s:SrcR)(w:World)(cb:Nat)(J:List CfR->World->Prop)(c:List Int)(r:Nat)(pre:List CfR)(V:World):Prop where
 ok:bf s.opts c=true
 rk:bC s.opts c+r=many s.opts
 ls:pre.map (·.c)++fa s r c=fd s
 pl:pre.length+r<=many s.opts
 jj:J pre V
 own:∀x∈pre,aa V (cb+1) 3 1 x.v (x.c.map af)
 row:Blk V cb (c.map bY) 3
 below:eB w V
structure ISt(s:SrcR)(w:World)(cb:Nat)(J:List CfR->World->Prop)(c:List Int)(r j:Nat)(pre:List CfR)(V:World):Prop where
 ok:bf s.opts c=true
 rk:bC s.opts c+(r+1)=many s.opts
 ls:pre.map (·.c)++(match nextC s.opts c with|some c'=>fa s r c'|none=>[])=fd s
 pl:pre.length+r<=many s.opts
 jj:J pre V
 own:∀x∈pre,aa V (cb+1) 3 1 x.v (x.c.map af)
 row:Blk V cb ((c.take j++List.replicate (c.length-j) 0).map bY) 3
 below:eB w V
 nx:nextC (s.opts.drop j) (c.drop j)=none
section
variable {s:SrcR} {w:World} {cb:Nat} {J:List CfR->World->Prop} {c:List Int} {r j D:Nat} {pre:List CfR} {V V':World}
def OSt.le(h:OSt s w cb J c r pre V):∃r',r=r'+1:=⟨r-1,by have:=nG h.ok;have:=h.rk;omega⟩
def OSt.len(h:OSt s w cb J c r pre V):c.length=s.opts.length:=(iY.1 h.ok).1
def ISt.len(h:ISt s w cb J c r j pre V):c.length=s.opts.length:=(iY.1 h.ok).1
def OSt.go(hJ:AbX D 3 J)(h:OSt s w cb J c r pre V)(hb:eB V V')(hw:w.heap.size<=V.heap.size):OSt s w cb J c r pre V':=
 ⟨h.ok,h.rk,h.ls,h.pl,hJ.belowJ h.jj hb,fun x hx=>(h.own x hx).below hb (No _),h.row.below hb h.row.lt,h.below.trans (hb.mono hw)⟩
def OSt.skip(h:OSt s w cb J c (r+1) pre V)(hp:dR s c=false):ISt s w cb J c r c.length pre V:=by
 refine⟨h.ok,h.rk,?_,by have:=h.pl;omega,h.jj,h.own,?_,h.below,?_⟩
 ·rw[<-h.ls,Gt hp];rfl
 ·rw[OK,Nat.sub_self];simpa using h.row
 ·rw[h.len,List.drop_length,<-h.len,List.drop_length];rfl
def OSt.took(h:OSt s w cb J c (r+1) pre V)(hp:dR s c=true)(A)(n k:Nat){V1}(hv:aa V1 (cb+1) 3 1 (.slice A n k) (c.map af))(hb:eB V V1)(hj:J (pre++[⟨A,n,k,c⟩]) V')(hk:aI 3 V1 V')(ab:Below w.heap.size V1 V')(hw:w.heap.size<=V.heap.size):ISt s w cb J c r c.length (pre++[⟨A,n,k,c⟩]) V':=by
 refine⟨h.ok,h.rk,?_,by have:=h.pl;rw[Oe,OP];omega,hj,?_,?_,(h.below.trans (hb.mono hw)).trans ab,?_⟩
 ·rw[<-h.ls,Gs hp,N9,OL];rfl
 ·intro x hx;rcases Of.1 hx with hx|hx
  ·exact((h.own x hx).below hb (No _)).keepT hk
  ·rw[Oi.1 hx];exact hv.keepT hk
 ·rw[OK,Nat.sub_self];have:Blk V' cb (c.map bY) 3:=hk _ _ _ (h.row.below hb h.row.lt);simpa using this
 ·rw[h.len,List.drop_length,<-h.len,List.drop_length];rfl
def ISt.down(hJ:AbX D 3 J)(hD:D<=cb)(hw:w.heap.size<=cb)(h:ISt s w cb J c r (j+1) pre V){o}{x:Int}(ho:s.opts[j]? = some o)(hx:c[j]? = some x)(he:x=(o.choices.length:Int)-1):ISt s w cb J c r j pre (V.setCell ⟨cb,j,none⟩ (.int .i64 0)):=by
 have hj:j<c.length:=(NQ.1 hx).1;refine⟨h.ok,h.rk,h.ls,h.pl,hJ.setJ h.jj h.row hD _ _,fun y hy=>(h.own y hy).off (by omega) _,?_,h.below.setCell hw _,Gn ho hx h.nx he⟩;have:=h.row.set j (.int .i64 0);have e:((c.take (j+1)++List.replicate (c.length-(j+1)) 0).map bY).set j (.int .i64 0)=(c.take j++List.replicate (c.length-j) 0).map bY:=by
  rw[Ox,hx,Option.toList_some,OL,N9,Oy _ _ (by simp;omega),N6,Nz,Nat.min_eq_left (by omega),Nat.sub_self];rw[show c.length-j=(c.length-(j+1))+1 from by omega,List.replicate_succ];simp[bY]
 rw[e]at this;exact this
def ISt.up(hJ:AbX D 3 J)(hD:D<=cb)(hw:w.heap.size<=cb)(h1:∀o∈s.opts,1<=o.choices.length)(h:ISt s w cb J c r (j+1) pre V){o}{x:Int}(ho:s.opts[j]? = some o)(hx:c[j]? = some x)(he:x≠(o.choices.length:Int)-1) :OSt s w cb J (c.take j++(x+1)::List.replicate (c.length-(j+1)) 0) r pre (V.setCell ⟨cb,j,none⟩ (.int .i64 (x+1))):=by
 have hn:=Gr h.len.symm ho hx h.nx he;rw[<-h.len]at hn;have hs:=xN h1 h.ok hn;refine⟨hs.1,by rw[hs.2];have:=h.rk;omega,?_,h.pl,hJ.setJ h.jj h.row hD _ _,fun y hy=>(h.own y hy).off (by omega) _,?_,h.below.setCell hw _⟩
 ·have:=h.ls;rw[hn]at this;exact this
 ·have hj:j<c.length:=(NQ.1 hx).1;have:=h.row.set j (.int .i64 (x+1));have e:((c.take (j+1)++List.replicate (c.length-(j+1)) 0).map bY).set j (.int .i64 (x+1))=(c.take j++(x+1)::List.replicate (c.length-(j+1)) 0).map bY:=by
   rw[Ox,hx,Option.toList_some,OL,N9,Oy _ _ (by simp;omega),N6,Nz,Nat.min_eq_left (by omega),Nat.sub_self];simp[bY]
  rw[e]at this;exact this
def ISt.fin(h:ISt s w cb J c r 0 pre V):pre.map (·.c)=fd s:=by
 have hn:=h.nx;rw[List.drop_zero,List.drop_zero]at hn;have:=h.ls;rw[hn,Oz]at this;exact this
end
end
def lI(w:World)(pb B:Nat)(v:Value)(L:List In)(e:Ending)(w':World):Prop:=
 e=.returned (.tuple #[])/\∃(v':Value)(w1:World),Blk w' pb [v'] 153/\aa w' B 72 6 v' (L.map au)/\w.grownBy w1 v.ownBlock/\w1.grownBy w' (some pb)/\(v'.ownBlock=v.ownBlock\/v'.ownBlock=some w.heap.size)
def th(pb B:Nat)(v lv)(L M:List In)(w)(hP:Blk w pb [v] 153)(hO:aa w B 72 6 v (L.map au))(hR:RowC w 6 lv (M.map au))(hl:L.length+M.length<=16777216)(hB:B<=w.heap.size) :Calls prog 78 #[.pointer pb,lv] w (lI w pb B v (L++M)):=by
 obtain⟨A,c,rfl⟩:=hO.slice;have R:=MY hR;obtain⟨A',c',rfl,_,_⟩:=hR;simp only[N6]at hO hP R⊢;obtain⟨n,hn⟩:=nm L.length;obtain⟨m,hm⟩:=nm M.length;have HM:=MY (show(M.map au).length=m by rw[N6,hm]);rw[hn]at hO hP;rw[hn]at hl;rw[hn];rw[hm]at hl R⊢;have O:=MY hO;have P:=MY hP;have q0:=(hP.at 0 _ rfl).1;have HN:=MY hn;clear hO hP hn hm;go_enter func78,ntmps78;go_wp2_with (at_builtin;refine ku Gv rfl (.tmp 8) (.tmp 9) rfl B (.slice A n c) (L.map au) rfl O.out A' m c' (M.map au) rfl R.out (fun y hy=>by obtain⟨z,_,rfl⟩:=List.mem_map.1 hy;rfl) (fun y hy u hu=>by obtain⟨z,_,rfl⟩:=List.mem_map.1 hy;simp only[au,Og,Oh,or_false]at hu;rcases hu with rfl|rfl|rfl|rfl|rfl|rfl <;> rfl) (by rw[HM.out,N6,HN.out];omega) hB ?_;intro v' w1 ho hg ag;obtain⟨A2,c2,rfl⟩:=ho.slice;have HO:=MY ho;have HG:=MY hg;have al:=MY ag;have P1:=MY (P.ownG O.out (by decide) hg);obtain⟨q1,f1⟩:=P1.at 0 _ rfl;clear ho hg ag);go_end0;have ad:(L.map au++M.map au).length=L.length+M.length:=by simp
 have ac:=HO.out;have ab:=al.out;rw[ad]at ac ab;refine⟨rfl,_,w1,P1.set 0 _,?_,HG.out,gh _ _ _ _,ab⟩;rw[N9];exact ac.of_block (fun g hg=>NF w1 ⟨pb,0,none⟩ _ g (ac.ne_blk P1.out (by decide) g hg))
def RowC.of_block{w w':World}{k:Nat}{v}{L:List (List Value)}(h:RowC w k v L)(hs:w.heap.size<=w'.heap.size)(hb:∀g,v.ownBlock=some g->w'.heap[g]? = w.heap[g]?):RowC w' k v L:=by
 obtain⟨A,cap,rfl,hc,h⟩:=h;refine⟨A,cap,rfl,hc,fun i cs hi=>?_⟩;obtain⟨b,off,rfl,hl,ab⟩:=h i cs hi;exact⟨b,off,rfl,Nf hl hs,fun j x hx=>(NL (hb b rfl)).trans (ab j x hx)⟩
def fJ(a:Int):In:={op:=2,A:=a,B:=0,neg:=false,n:=⟨#[]⟩,d:=⟨#[]⟩}
def cy:List In->List In->List In
 |[],rest=>rest
 |t::ts,rest=>t::fJ (2*(ts.length:Int)+(rest.length:Int))::cy ts rest
def i8:∀(ts rest:List In),(cy ts rest).length=2*ts.length+rest.length
 |[],rest=>by simp[cy]
 |t::ts,rest=>by simp only[cy,M6,i8 ts rest];omega
structure eG(w:World)(pb:Nat)(v:Value)(g:Nat):Prop where
 lt:g<w.heap.size
 ne:g≠pb
 own:v.ownBlock≠some g
def eG.step{w w' w1}{pb g:Nat}{v v':Value}(h:eG w pb v g)(h1:w.grownBy w1 v.ownBlock)(h2:w1.grownBy w' (some pb))(hv:v'.ownBlock=v.ownBlock\/v'.ownBlock=some w.heap.size):eG w' pb v' g/\w'.heap[g]? = w.heap[g]?:=by
 have hl:=h.lt;refine⟨⟨Nf (Nf hl h1.size) h2.size,h.ne,?_⟩,?_⟩
 ·rcases hv with hv|hv
  ·rw[hv];exact h.own
  ·rw[hv];intro e;injection e with e;omega
 ·rw[h2.block g (Nf hl h1.size) (fun e=>h.ne (Option.some.inj e)),h1.block g hl (fun e=>h.own e.symm)]
def Gy(a:Int):prog.built 72 [(0,.int .i64 2),(1,.int .i64 a)]=some #[.int .i64 2,.int .i64 a,.int .i64 0,.bool false,.string ⟨#[]⟩,.string ⟨#[]⟩]:=by kernel_rfl
def GC(pb B p9 ab:Nat)(v rv)(L R:List In)(w)(hP:Blk w pb [v] 153)(hO:aa w B 72 6 v (L.map au))(hR:RowC w 6 rv (R.map au))(hl:L.length+R.length<=16777216)(hB:B<=w.heap.size)(h9:w.cell? ⟨p9,0,none⟩=some (.func (.func 78) #[.pointer pb] #[]))(ac:w.cell? ⟨ab,0,none⟩=some rv) :Calls prog 82 #[.pointer p9,.pointer ab] w (lI w pb B v (L++R)):=by
 have HA:=MY (th pb B v rv L R w hP hO hR hl hB);obtain⟨A,c,rfl,_,_⟩:=hR;obtain⟨m,hm⟩:=nm ((R.map au).length);rw[hm]at HA ac;clear hP hO hm;go_enter func82,ntmps82;go_wp2_with fail;refine HA.mono ?_;rintro e w1 ⟨rfl,h⟩;have H:=MY h;clear h;go_wp2_with fail;go_end0;exact⟨rfl,H.out⟩
def bO(op a b:Int)(r:Rt):In:={op:=op,A:=a,B:=b,neg:=r.neg,n:=bs r.n,d:=bs r.d}
def opI(op a b:Int):In:={op:=op,A:=a,B:=b,neg:=false,n:=⟨#[]⟩,d:=⟨#[]⟩}
def lJ(op a b:Int)(r):(bO op a b r).rt=r:=by unfold In.rt bO;simp only[aU]
def amtsI(s:SrcR)(op:Int)(bk:aw->Int):List aw->Option (List In)
 |[]=>some []
 |a::l=>match amtR s a with
  |some x=>match amtsI s op bk l with
   |some m=>some (bO op a.itemNo (bk a) x::m)
   |none=>none
  |none=>none
def gi(a:aw):Int:=if a.back then 1 else 0
def goodR(s:SrcR)(r:RecR):Option Rt:=match r.outs[0]? with
 |some a=>match amtR s a with
  |some x=>mulR x (lowR false (r.reworkD-r.reworkN).toNat r.reworkD.toNat)
  |none=>none
 |none=>none
def dU(l:List cO):List In:=l.map fun x=>opI 6 x.machNo x.slots
def bodyR(s:SrcR)(no:Nat)(r:RecR):Option (List In):=match goodR s r with
 |some g=>match amtsI s 4 gi r.ins with
  |some u=>match amtsI s 5 (fun _=>0) r.outs with
   |some o=>some (bO 3 no r.lead g::(u++(o++(dU r.runs++[opI 7 0 0]))))
   |none=>none
  |none=>none
 |none=>none
def codeFrom(s:SrcR)(item plant:Int):List RecR->Nat->Option (List In)
 |[],_=>some []
 |r::l,k=>if r.itemNo=item/\r.plantNo=plant then
  match bodyR s k r with
  |some b=>match codeFrom s item plant l (k+1)with
   |some c=>some (cy (ct r) b++c)
   |none=>none
  |none=>none
  else codeFrom s item plant l (k+1)
def codeR(s:SrcR)(item plant:Int):Option (List In):=match codeFrom s item plant s.recs 0 with
 |some []=>some []
 |some (x::c)=>some (x::c++[opI 8 0 0])
 |none=>none
def yu(s)(op:Int)(bk:aw->Int)(a:aw):∀l:List aw,amtsI s op bk (l++[a])=(match amtsI s op bk l with
 |some m=>match amtR s a with
  |some x=>some (m++[bO op a.itemNo (bk a) x])
  |none=>none
 |none=>none)
 |[]=>by simp only[M9,amtsI]
 |b::l=>by
  simp only[MZ,amtsI,yu s op bk a l]
  cases amtR s b <;> cases amtsI s op bk l <;> cases amtR s a <;> rfl
def tj(s)(item plant:Int)(r):∀(l:List RecR)(k:Nat),codeFrom s item plant (l++[r]) k=(if r.itemNo=item/\r.plantNo=plant then match codeFrom s item plant l k with
 |some c=>match bodyR s (k+l.length) r with
  |some b=>some (c++cy (ct r) b)
  |none=>none
 |none=>none
 else codeFrom s item plant l k)
 |[],k=>by
  simp only[M9,codeFrom,ND,Na];split
  ·cases bodyR s k r <;> simp
  ·rfl
 |q::l,k=>by
  simp only[MZ,codeFrom,tj s item plant r l (k+1),M6];rw[show k+1+l.length=k+(l.length+1) by omega];by_cases h1:q.itemNo=item/\q.plantNo=plant
  ·rw[if_pos h1,if_pos h1];by_cases h2:r.itemNo=item/\r.plantNo=plant
   ·rw[if_pos h2,if_pos h2]
    cases bodyR s k q <;> cases codeFrom s item plant l (k+1) <;> cases bodyR s (k+(l.length+1)) r <;> simp
   ·rw[if_neg h2,if_neg h2]
  ·rw[if_neg h1,if_neg h1]
section
variable {code:List In} {ch:List Int} {day:Int} {amt:Rt}
def bJ(code:List In)(ch:List Int)(day:Int)(amt:Rt)(s s':Mst):Prop:=
 ∀g f,code.length<=g+s.next->code.length<=f+s.next->∃g' f',code.length<=g'+s'.next/\code.length<=f'+s'.next/\dt code ch day amt g {s with fuel:=f}=dt code ch day amt g' {s' with fuel:=f'}
def dV(code:List In)(ch:List Int)(day:Int)(amt:Rt)(s:Mst)(p:Int×Mst->Prop):Prop:=
 ∀g f,code.length<=g+s.next->code.length<=f+s.next->p (dt code ch day amt g {s with fuel:=f})
def bJ.refl(s:Mst):bJ code ch day amt s s:=fun g f h1 h2=>⟨g,f,h1,h2,rfl⟩
def bJ.trans{s t u:Mst}(h:bJ code ch day amt s t)(h':bJ code ch day amt t u):bJ code ch day amt s u:=fun g f h1 h2=>by
 obtain⟨g',f',h3,h4,e⟩:=h g f h1 h2;obtain⟨g2,f2,h5,h6,e'⟩:=h' g' f' h3 h4;exact⟨g2,f2,h5,h6,e.trans e'⟩
def bJ.ends{s t:Mst}{p:Int×Mst->Prop}(h:bJ code ch day amt s t)(h':dV code ch day amt t p):dV code ch day amt s p:=fun g f h1 h2=>by
 obtain⟨g',f',h3,h4,e⟩:=h g f h1 h2;rw[e];exact h' g' f' h3 h4
def bJ.step{s s':Mst}{x:In}(hx:code[s.next]? = some x)(h:∀f,stepI ch day amt x {s with fuel:=f,next:=s.next+1}=.go {s' with fuel:=f})(hn:s.next<s'.next):bJ code ch day amt s s':=fun g f h1 h2=>by
 have hl:=(NQ.1 hx).1;obtain⟨g,rfl⟩:∃m,g=m+1:=⟨g-1,by omega⟩
 obtain⟨f,rfl⟩:∃m,f=m+1:=⟨f-1,by omega⟩
 refine⟨g,f,by omega,by omega,?_⟩;conv=>lhs;unfold dt
 simp only[hx,Nat.add_one_sub_one,h f,Nat.succ_ne_zero,if_false]
def dV.stop{s:Mst}{x:In}{e:Int}{p:Int×Mst->Prop}(hx:code[s.next]? = some x)(h:∀f,∃s',stepI ch day amt x {s with fuel:=f,next:=s.next+1}=.stop e s'/\p (e,s')):dV code ch day amt s p:=fun g f h1 h2=>by
 have hl:=(NQ.1 hx).1;obtain⟨g,rfl⟩:∃m,g=m+1:=⟨g-1,by omega⟩
 obtain⟨f,rfl⟩:∃m,f=m+1:=⟨f-1,by omega⟩
 obtain⟨s',e',hp⟩:=h f;unfold dt;simp only[hx,Nat.add_one_sub_one,e',Nat.succ_ne_zero,if_false];exact hp
def fK{l m:List In}{p:Nat}{x:In}(h:l.drop p=x::m):l[p]? = some x/\l.drop (p+1)=m:=by
 have h1:(l.drop p)[0]? = some x:=by rw[h];rfl
 rw[List.getElem?_drop,Na]at h1;refine⟨h1,?_⟩;rw[<-List.drop_drop,h];rfl
def qa{l m n:List In}{p:Nat}(h:l.drop p=m++n):l.drop (p+m.length)=n:=by
 rw[<-List.drop_drop,h,List.drop_left]
def Mst.at(s:Mst)(p:Nat):Mst:={s with next:=p}
def yv{s:Mst}{p:Nat}{t:In}{m:List In}(ht:t.op=1)(h:code.drop p=t::m)(hh:cg ch day t=true):bJ code ch day amt (s.at p) (s.at (p+2)):=by
 refine bJ.step (fK h).1 (fun f=>?_) (by show p<p+2;omega);unfold stepI;rw[if_pos ht,hh];rfl
def GD{s:Mst}{p:Nat}{t:In}{m:List In}{a:Nat}(ht:t.op=1)(h:code.drop p=t::fJ a::m)(hh:cg ch day t=false):bJ code ch day amt (s.at p) (s.at (p+2+a)):=by
 refine bJ.trans (t:=s.at (p+1)) (bJ.step (fK h).1 (fun f=>?_) (by show p<p+1;omega)) (bJ.step (fK (fK h).2).1 (fun f=>?_) (by show p+1<p+2+a;omega))
 ·unfold stepI;rw[if_pos ht,hh];rfl
 ·unfold stepI;rw[if_neg (by show ¬(2:Int)=1;decide),if_pos (show(fJ a).op=2 from rfl)];simp only[fJ,NI,Mst.at]
def yw{s:Mst}{rest ab:List In}:∀(ts:List In)(p:Nat),(∀t∈ts,t.op=1)->(∀t∈ts,cg ch day t=true)->code.drop p=cy ts rest++ab->bJ code ch day amt (s.at p) (s.at (p+2*ts.length))/\code.drop (p+2*ts.length)=rest++ab
 |[],p,_,_,h=>⟨bJ.refl _,h⟩
 |t::ts,p,ho,hh,h=>by
  simp only[cy,MZ]at h;have h2:=(fK (fK h).2).2;obtain⟨h3,h4⟩:=yw ts (p+2) (fun t ht=>ho t (by simp[ht])) (fun t ht=>hh t (by simp[ht])) h2;rw[show p+2*(t::ts).length=p+2+2*ts.length by rw[M6];omega];exact⟨(yv (ho t (by simp)) h (hh t (by simp))).trans h3,h4⟩
def yx{s:Mst}{rest ab:List In}:∀(ts:List In)(p:Nat),(∀t∈ts,t.op=1)->¬(∀t∈ts,cg ch day t=true)->code.drop p=cy ts rest++ab->bJ code ch day amt (s.at p) (s.at (p+(cy ts rest).length))
 |[],p,_,hh,_=>absurd (by simp) hh
 |t::ts,p,ho,hh,h=>by
  simp only[cy,MZ]at h;have h2:=(fK (fK h).2).2;rw[show p+(cy (t::ts) rest).length=p+2+(2*ts.length+rest.length) by rw[i8,M6];omega]
  cases hc:cg ch day t with
  |true=>
   have h3:=yx (s:=s) ts (p+2) (fun t ht=>ho t (by simp[ht])) (fun hx=>hh (fun u hu=>by
    rcases Og.1 hu with rfl|hu
    ·exact hc
    ·exact hx u hu)) h2
   rw[i8]at h3
   exact(yv (ho t (by simp)) h hc).trans h3
  |false=>exact GD (a:=2*ts.length+rest.length) (m:=cy ts rest++ab) (ho t (by simp)) (by rw[h];simp[fJ]) hc
def yz(r):∀t∈ct r,t.op=1:=by
 intro t ht;unfold ct at ht;simp only[MZ,M9,Og,List.mem_map]at ht;rcases ht with rfl|rfl|⟨c,_,rfl⟩ <;> rfl
def yA(r:RecR)(h0:∀x∈r.ifs,0<=x.optNo):(∀t∈ct r,cg ch day t=true)<->(r.frm<=day/\day<r.til/\dQ r.ifs ch=true):=by
 unfold ct;simp only[MZ,M9,Og,List.mem_map,forall_eq_or_imp,dQ,Od];have h1:cg ch day (dz (-1) r.frm)=true<->r.frm<=day:=by simp only[cg,dz,if_true];exact decide_eq_true_iff
 have h2:cg ch day (dz (-2) r.til)=true<->day<r.til:=by simp only[cg,dz,if_true,show ¬((-2:Int)= -1) by decide,if_false];exact decide_eq_true_iff
 rw[h1,h2];refine and_congr Iff.rfl (and_congr Iff.rfl ⟨fun h x hx=>?_,fun h t ht=>?_⟩)
 ·have:=h _ ⟨x,hx,rfl⟩;have ab:=h0 x hx;unfold cg dz at this;simp only at this;rw[if_neg (by omega),if_neg (by omega)]at this;unfold gH
  cases hc:ch[x.optNo.toNat]? with
  |none=>rw[hc]at this;cases this
  |some z=>
   rw[hc]at this
   have hl:=(NQ.1 hc).1
   simp only[Ob,decide_eq_true_eq]
   exact⟨ab,by omega,beq_iff_eq.1 this⟩
 ·obtain⟨x,hx,rfl⟩:=ht;have h3:=h x hx;unfold gH at h3;simp only[Ob,decide_eq_true_eq]at h3;obtain⟨h3,h4,h5⟩:=h3;unfold cg dz;simp only;rw[if_neg (by omega),if_neg (by omega)]
  cases hc:ch[x.optNo.toNat]? with
  |none=>rw[hc]at h5;cases h5
  |some z=>rw[hc]at h5;simpa using h5
end
structure cJ(w:World)(pb:Nat)(v:Value)(w':World)(v':Value):Prop where
 os:w'.os=w.os
 tape:w'.tape=w.tape
 output:w'.output=w.output
 size:w.heap.size<=w'.heap.size
 keep:∀g,eG w pb v g->eG w' pb v' g/\w'.heap[g]? = w.heap[g]?
def cJ.refl(w)(pb:Nat)(v):cJ w pb v w v:=⟨rfl,rfl,rfl,No _,fun _ h=>⟨h,rfl⟩⟩
def cJ.trans{w w1 w2}{pb:Nat}{v v1 v2}(h:cJ w pb v w1 v1)(k:cJ w1 pb v1 w2 v2):cJ w pb v w2 v2:=
 ⟨k.os.trans h.os,k.tape.trans h.tape,k.output.trans h.output,Nv h.size k.size,fun g hg=>⟨(k.keep g (h.keep g hg).1).1,(k.keep g (h.keep g hg).1).2.trans (h.keep g hg).2⟩⟩
def cJ.of_below{w w'}{pb:Nat}{v}(h:eB w w'):cJ w pb v w' v:=
 ⟨h.os,h.tape,h.output,h.size,fun g hg=>⟨⟨Nf hg.lt h.size,hg.ne,hg.own⟩,h.block g hg.lt⟩⟩
def cJ.alloc{w w'}{pb:Nat}{v v'}(h:cJ w pb v w' v')(o:Obj):cJ w pb v (w'.alloc o) v':=h.trans (cJ.of_below ((NB _ _).alloc (No _) o))
def nL(w:World)(pb:Nat)(v tv:Value):Prop:=∀g,tv.ownBlock=some g->eG w pb v g
def cJ.row{w w'}{pb k:Nat}{v v' tv}{L:List (List Value)}(h:cJ w pb v w' v')(ha:nL w pb v tv)(hb:RowC w k tv L):RowC w' k tv L:=hb.of_block h.size fun g hg=>(h.keep g (ha g hg)).2
def cJ.asV{w w'}{pb:Nat}{v v' tv}(h:cJ w pb v w' v')(ha:nL w pb v tv):nL w' pb v' tv:=fun g hg=>(h.keep g (ha g hg)).1
def cJ.cell{w w'}{pb b o:Nat}{v v' x}(h:cJ w pb v w' v')(ha:eG w pb v b)(hb:w.cell? ⟨b,o,none⟩=some x):w'.cell? ⟨b,o,none⟩=some x:=(NL (a:=⟨b,o,none⟩) (h.keep b ha).2).trans hb
def tr(w:World)(pb B:Nat)(v:Value)(L:List In)(e:Ending)(w':World):Prop:=e=.returned (.tuple #[])/\∃v',Blk w' pb [v'] 153/\aa w' B 72 6 v' (L.map au)/\cJ w pb v w' v'
def lI.q{w}{pb B:Nat}{v}{L:List In}{e}{w'}(h:lI w pb B v L e w'):tr w pb B v L e w':=by
 obtain⟨h1,v',w1,h2,h3,h4,h5,h6⟩:=h;exact⟨h1,v',h2,h3,h5.os.trans h4.os,h5.tape.trans h4.tape,h5.output.trans h4.output,Nv h4.size h5.size,fun g hg=>hg.step h4 h5 h6⟩
abbrev nM(pb:Nat):Value:= .func (.func 78) #[.pointer pb] #[]
abbrev tu(p9 ab:Nat):Value:= .func (.func 82) #[] #[.pointer p9,.pointer ab]
def GF(pb B p9 ac r:Nat)(rv)(R:List In)(hR:R.length=r):∀(ts:List In)(tv v:Value) (L:List In) (w:World),Blk w pb [v] 153->aa w B 72 6 v (L.map au)->B<=w.heap.size->RowC w 6 tv (ts.map au)->nL w pb v tv->RowC w 6 rv (R.map au)->nL w pb v rv->w.cell? ⟨p9,0,none⟩=some (nM pb)->eG w pb v p9->w.cell? ⟨ac,0,none⟩=some rv->eG w pb v ac->L.length+(2*ts.length+r)<=16777216->Calls prog 80 #[nM pb,tv,tu p9 ac,.int .i64 (r:Int)] w (tr w pb B v (L++cy ts R)):=by
 intro ts;induction ts with
 |nil=>
  intro tv v L w hP hO hB hT hA aA be h9 bc ax ag hl
  obtain⟨A,c,rfl,_⟩:=hT
  have HR:=MY (GC pb B p9 ac v rv L R w hP hO aA (by omega) hB h9 ax)
  simp only[List.map_nil,ND]
  go_enter func80,ntmps80
  go_wp2_with fail
  refine HR.mono ?_
  rintro e w1 ⟨rfl,h⟩
  have H:=MY (lI.q (show lI w pb B v (L++R) _ w1 from⟨rfl,h⟩))
  go_wp2_with fail
  go_end0
  exact H.out
 |cons t ts ih=>
  intro tv v L w hP hO hB hT hA aA be h9 bc ax ag hl
  obtain⟨A,c,rfl,ab,an⟩:=hT
  obtain⟨b,off,rfl,bt,al⟩:=an 0 (au t) rfl
  simp only[N6,M6]at hA ab hl⊢
  obtain⟨n,hn⟩:∃n,ts.length=n:=⟨_,rfl⟩
  rw[hn]at hA ab hl⊢
  have HN:=MY hn
  have HL:Hid (w.rangeAt b off (au t)):=fun j u hu=>by have:=al j u hu;rwa[Nat.zero_mul,Na]at this
  have bo:eG w pb v b:=hA b rfl
  have H:=MY (And.intro hP (And.intro hO (And.intro aA (And.intro be (And.intro h9 (And.intro bc (And.intro ax (And.intro ag (And.intro an (And.intro hA bo))))))))))
  have IH:=MY ih
  have hr:r<=16777216:=by omega
  obtain⟨m,hm⟩:∃m,n+1=m:=⟨_,rfl⟩
  rw[hm]at ab⊢
  have hm1:1<=m:=by omega
  have bv:m<=16777216:=by omega
  have bw:¬((m:Int)=0):=by omega
  have HM:=MY hm
  have ad:=MY ab
  have ba:=MY hl
  have bl:=MY hR
  have bk:=MY (show RowC (w.alloc (.cells (au t++au (fJ (2*((m:Int)-1)+(r:Int)))).toArray 72)) 6 (.slice w.heap.size 2 2) ([t,fJ (2*((m:Int)-1)+(r:Int))].map au)from
   RowC.of_blk (b:=w.heap.size) (cells:=au t++au (fJ (2*((m:Int)-1)+(r:Int)))) (T:=72) (n:=2) (Blk.new w _ _) ([t,fJ (2*((m:Int)-1)+(r:Int))].map au) rfl (fun c hc=>by obtain⟨y,_,rfl⟩:=List.mem_map.1 hc;rfl) rfl 2 (No 2))
  have ar:=MY (th pb B v (.slice w.heap.size 2 2) L [t,fJ (2*((m:Int)-1)+(r:Int))] _ (H.1.alloc _) (H.2.1.alloc _) bk.out (by have:=ba.out;simp only[M6,ND];omega) (Nv hB (by simp)))
  go_enter func80,ntmps80
  go_wp2_with (first|(refine sa 72 6 (by kernel_rfl) rfl (.tmp 22) rfl b off rfl [.int .i64 t.op,.int .i64 t.A,.int .i64 t.B,.bool t.neg,.string t.n,.string t.d] rfl HL.out ?_)|(refine pX 72 _ _ rfl rfl (.int .i64 2) (.int .i64 (2*((m:Int)-1)+(r:Int))) rfl rfl _ (Gy _) ?_))
  refine ar.mono ?_
  rintro e w1 hq
  obtain⟨rfl,v1,p1,o1,a1⟩:=hq.q
  have A1:=MY ((cJ.refl w pb v).alloc (.cells (au t++au (fJ (2*((m:Int)-1)+(r:Int)))).toArray 72) |>.trans a1)
  have P1:=MY p1
  have O1:=MY o1
  obtain⟨h1,h2,h3,h4,h5,h6,h7,h8,h9,bs,bb⟩:=H.out
  have bn:=MY (A1.row h4 h3)
  have bm:=MY (A1.asV h4)
  have C9:=MY (A1.cell h6 h5)
  have bh:=MY (A1.keep p9 h6).1
  have bg:=MY (A1.cell h8 h7)
  have ao:=MY (A1.keep ac h8).1
  have HB:=MY (A1.keep b bb)
  have av:=MY h9
  have bi:=MY bb.lt
  have GO:Hid (∀(A':Option Addr)(k':Nat),(A'=some ⟨b,off+6,none⟩\/ts=[]/\A'=some ⟨b,off,none⟩)->m-1<=k'->Calls prog 80 #[nM pb,.slice A' (m-1) k',tu p9 ac,.int .i64 (r:Int)] w1 (tr w1 pb B v1 (L++cy (t::ts) R))):=by
   intro A' k' bd bu;have hm:=HM.out;have hn:=HN.out;have br:m-1=(ts.map au).length:=by rw[N6];omega
   have e:L++cy (t::ts) R=(L++[t,fJ (2*((m:Int)-1)+(r:Int))])++cy ts R:=by
    rw[cy,OL,hn,bl.out,show(m:Int)-1=(n:Int) by omega];rfl
   rw[e];refine IH.out _ _ _ _ P1.out O1.out (Nv hB A1.size) ?_ ?_ bn.out bm.out C9.out bh.out bg.out ao.out (by have:=ba.out;simp only[Oe,M6,ND];omega)
   ·rw[br];refine⟨A',k',rfl,by omega,fun i cs hi=>?_⟩;rcases bd with rfl|⟨rfl,_⟩
    ·obtain⟨b1,o1,e1,_,bp⟩:=av.out (i+1) cs (by rw[NP,Ok];exact hi)
     cases e1;refine⟨b,off+6,rfl,Nf bi.out A1.size,fun j x hx=>?_⟩;have:=bp j x hx;rw[show off+6+i*6+j=off+(i+1)*6+j by omega];exact(NL (a:=⟨b,_,none⟩) HB.2).trans this
    ·simp at hi
   ·intro g hg;have:g=b:=by
     rcases bd with rfl|⟨_,rfl⟩
     ·exact(Option.some.inj hg).symm
     ·exact(Option.some.inj hg).symm
    subst this;exact HB.1
  go_wp2_with fail
  all_goals
   refine(GO.out _ _ ?_ ?_).mono ?_
   ·first
     |exact Or.inl rfl
     |(refine Or.inr ⟨?_,rfl⟩;have:=HM.out;have:=HN.out;have:=ad.out;exact List.length_eq_zero_iff.1 (by omega))
   ·have:=ad.out;omega
   ·rintro e w2 ⟨rfl,v2,p2,o2,a2⟩
    have HF:=MY (And.intro p2 (And.intro o2 (A1.trans a2)))
    go_wp2_with fail
    go_end0
    exact⟨rfl,v2,HF.1,HF.2.1,HF.2.2⟩
def yE(w:World)(s:SrcR)(e:Ending)(w':World):Prop:=
 eB w w'/\∃(x1 x2 x3 x5:Int)(A:Option Addr) (n c:Nat) (ok:Bool) (k:Int),e=.returned (.tuple #[.agg #[.int .i64 x1,.int .i64 x2,.int .i64 x3,.slice A n c,.int .i64 x5],.bool ok,.int .i64 k])/\(k=0<->bB s=true)/\(bB s=true->(ok=false<->iW s))
def cmpR(a b:Rt):Option Int:=if a.n*b.d<LIM/\b.n*a.d<LIM then some (if a.neg=true/\b.neg=false then -1 else if a.neg=false/\b.neg=true then 1 else if a.neg=true then cmpN (b.n*a.d) (a.n*b.d)else cmpN (a.n*b.d) (b.n*a.d))else none
def qv:Option Int->Value
 |some k=> .tuple #[.int .i64 k,.int .i64 0]
 |none=> .tuple #[.int .i64 0,.int .i64 2]
section
def Hh(br be:Nat)(k:Int)(a0 a3)(w)(hr:Blk w br [a0] 3)(he:Blk w be [a3] 41)(al:br≠be) :CallsD prog 315 #[.pointer br,.pointer be] (.panicking (fX k)) w fun e u' w'=>e=.returned (.tuple #[])/\u'=.panicking [{v:= .iface 183 (.agg #[.int .i64 k]),recovered:=true}]/\∃w1,eB w w1/\w'=(w1.setCell ⟨br,0,none⟩ (.int .i64 0)).setCell ⟨be,0,none⟩ (.int .i64 k):=by
 refine callsD_of_wpS func315 rfl fun c₀ cs hu=>?_;unfold fX at hu;apply wpS_seq;apply wpS_region;simp[wpOpsS,go_sem,recoverD,hu,ntmps315,Exit.thenS];refine wpS_of_wp ?_;simp only[NZ,N0,N1,N2,M9,MZ,NY,OB,OC];go_wp2_with fail;refine(wy k _).mono ?_;rintro e w1 ⟨rfl,ab⟩;have ad:=hr.below ab hr.lt;have ac:=he.below ab he.lt;have ag:=MY ab;obtain⟨q0,f0⟩:=ad.at 0 _ rfl;obtain⟨q3,f3⟩:=ac.at 0 _ rfl;have an:¬be=br:=fun e=>al e.symm;clear ad ac ab hr he hu;go_wp2;simp[bodyPostS,results,results315];exact⟨w1,ag.out,rfl⟩
def Hi(br be:Nat)(w) :CallsD prog 315 #[.pointer br,.pointer be] .returning w fun e u' w'=>e=.returned (.tuple #[])/\u'=.returning/\w'=w:=by
 refine callsD_of_wpS func315 rfl fun c₀ cs hu=>?_;apply wpS_seq;apply wpS_region;simp[wpOpsS,go_sem,recoverD,hu,ntmps315,Exit.thenS];refine wpS_of_wp ?_;simp only[NZ,N0,N1,N2,M9,MZ,NY,OB,OC];go_wp2
 cases c₀;simp_all [bodyPostS,results,results315]
def Hj{w W}{As}{rb eb:Nat}{c d}[o:Old As w](M:Sep (.box eb [d] 41:: .box rb [c] 3::As) W)(tmps:Array Value)(h6:tmps.getD 4 undef=.pointer rb)(h7:tmps.getD 5 undef=.pointer eb) :Leaves prog Tryz.f296 tmps (Ret w (qv none)) [{target:= .fn (.func 315) #[.pointer rb,.pointer eb],args:=#[]}] (.panicking (fX 2)) W:=by
 rw[Ow]at h6 h7;refine leaves_cons (f:=315) (args:=#[.pointer rb,.pointer eb]) (by simp) (by simp[go_sem]) ?_;refine(Hh rb eb 2 c d W (M.blk (i:=1) ⟨rfl⟩) (M.blk (i:=0) ⟨rfl⟩) M.ne).mono ?_;rintro e u' w'' ⟨rfl,rfl,w1,ab,rfl⟩;have M1:=M.ext ab;have M2:=M1.put (i:=1) ⟨rfl⟩ ((M1.blk (i:=1) ⟨rfl⟩).set 0 (.int .i64 0)) (cM _ _ _ _);have M3:=M2.put (i:=0) ⟨rfl⟩ ((M2.blk (i:=0) ⟨rfl⟩).set 0 (.int .i64 2)) (cM _ _ _ _);have q1:=((M3.blk (i:=1) ⟨rfl⟩).at 0 _ rfl).1;have q0:=((M3.blk (i:=0) ⟨rfl⟩).at 0 _ rfl).1;generalize World.setCell _ _ _=W5 at *;exact⟨qv none,by simp[results,results296,go_sem,h6,h7,q0,q1,qv],rfl,(show Sep As _ from M3.dr 2).bel⟩
def yL(a b:Rt)(w)(ha:a.ok)(hb:b.ok)(hT:Tab w):Calls prog 296 #[bA a,bA b] w (Ret w (qv (cmpR a b))):=by
 show Calls _ _ #[.agg (rtC a).toArray,.agg (rtC b).toArray] _ _;have ab:=mF;haveI hc:∀(a:Rt) [ha:Fct a.ok] As [Old As w],aB prog 8 #[.agg (rtC a).toArray] As (.int .i64 0):=fun a ha As _=>⟨fun W M=>by
  have:=iP a.neg (bs a.n) (bs a.d) W (hT.below M.bel);rwa[gY (bN.of ha.out)]at this⟩
 haveI:=Fct.mk ha;haveI:=Fct.mk hb;haveI:=Fct.mk ha.1;haveI:=Fct.mk ha.2.1;haveI:=Fct.mk hb.1;haveI:=Fct.mk hb.2.1;have M:=Sep.new w;unfold cmpR;by_cases hl:a.n*b.d<LIM/\b.n*a.d<LIM
 case neg=>
  haveI:=Fct.mk hl;rw[if_neg hl];go_enter_defers func296,ntmps296;go_wp2_with refine mz M fun M=>?_;exact mx M fun _ M=>Hj M _ rfl rfl
 rw[if_pos hl];haveI:=Fct.mk hl.1;haveI:=Fct.mk hl.2
 cases h1:a.neg <;> cases h2:b.neg;all_goals
  clear hl
  simp only[Bool.false_eq_true,and_true,and_false,true_and,false_and,and_self,if_true,if_false,reduceCtorEq]
  go_enter_defers func296,ntmps296
  go_wp2_with refine mz M fun M=>?_
  all_goals first
  |exact mrd M (Hi _ _ _) ⟨rfl,M.bel⟩
  |(exfalso;simp_all)
end
def at2(rows:List (List Rt))(i j:Nat):Rt:=(rows.getD i []).getD j ae
def pivR(rows:List (List Rt))(tk:Nat->Bool)(j:Nat):Option Nat:=(List.range rows.length).find? fun i=> !tk i&&decide ((at2 rows i j).n≠0)
def iy(f:Rt)(rp:List Rt)(r:List Rt):Option (List Rt):=mapO (fun(xy:Rt×Rt)=>match mulR f xy.2 with|some z=>subR xy.1 z|none=>none) (r.zip rp)
def eJ(j p:Nat)(rp:List Rt)(ri:List Rt×Nat):Option (List Rt):=if ri.2=p\/(ri.1.getD j ae).n=0 then some ri.1 else iy (ri.1.getD j ae) rp ri.1
def scaleRow(rows:List (List Rt))(p j:Nat):Option (List Rt):=mapO (fun x=>divR x (at2 rows p j)) (rows.getD p [])
structure ElS where
 rows:List (List Rt)
 tk:Nat->Bool
 piv:List (Option Nat)
def gL(s:ElS)(j:Nat):Option ElS:=match pivR s.rows s.tk j with
 |none=>some ⟨s.rows,s.tk,s.piv++[none]⟩
 |some p=>match scaleRow s.rows p j with
  |none=>none
  |some rp=>match mapO (eJ j p rp) (s.rows.set p rp).zipIdx with
   |none=>none
   |some rows=>some ⟨rows,fun i=>if i=p then true else s.tk i,s.piv++[some p]⟩
def elimTo(rows:List (List Rt)):Nat->Option ElS
 |0=>some ⟨rows,fun _=>false,[]⟩
 |j+1=>match elimTo rows j with
  |some s=>gL s j
  |none=>none
def ky(s:ElS)(u:Nat):Bool:=(List.range s.rows.length).any fun i=> !s.tk i&&decide ((at2 s.rows i u).n≠0)
def beginR(a:List (List Rt))(b:List Rt):List (List Rt):=a.zipIdx.map fun ri=>ri.1++(b.getD ri.2 ae::(List.range a.length).map fun j=>if j=ri.2 then aq else ae)
def solR(a:List (List Rt))(b:List Rt)(u:Nat):Option (List Rt):=match elimTo (beginR a b) u with
 |none=>none
 |some s=>if ky s u then none else mapO (fun(p:Option Nat)=>p.map fun i=>at2 s.rows i u) s.piv
def sysR(a:List (List Rt)):Option (List (List Rt)):=mapO (fun j=>mapO (fun i=>subR (if i=j then aq else ae) (at2 a i j)) (List.range a.length)) (List.range a.length)
def jI(a:List (List Rt)):Bool:=match sysR a with
 |none=>false
 |some rows=>match solR rows (List.replicate a.length aq) a.length with
  |none=>false
  |some x=>x.all fun r=> !r.neg
def cK(s:SrcR)(r:RecR)(j:Int):List aw->Rt->Option Rt
 |[],x=>some x
 |a::l,x=>if a.itemNo≠j then cK s r j l x else match goodR s r with
  |none=>none
  |some g=>match amtR s a with
   |none=>none
   |some n=>match divR n g with
    |none=>none
    |some q=>match addR x q with
     |none=>none
     |some y=>cK s r j l y
def matR(s:SrcR)(ab:List Int):Option (List (List Rt)):=mapO (fun(i:Nat)=>match ab.getD i (-1)with
 |.ofNat k=>match s.recs[k]? with
  |some r=>mapO (fun(j:Nat)=>cK s r j r.ins ae) (List.range s.items.length)
  |none=>none
 |.negSucc _=>some (List.replicate s.items.length ae)) (List.range s.items.length)
def nS(r:RecR)(day:Int)(c:List Int):Bool:=decide (r.frm<=day)&&decide (day<r.til)&&r.ifs.all fun x=>decide (c.getD x.optNo.toNat 0=x.chNo)
def fM(r:RecR):Bool:=r.ins.any (·.back)
def gM(plant day:Int)(c:List Int)(st:List Int×Bool)(rn:RecR×Nat):List Int×Bool:=
 if rn.1.plantNo=plant/\st.1.getD rn.1.itemNo.toNat 0<0/\nS rn.1 day c=true then(st.1.set rn.1.itemNo.toNat rn.2,st.2||fM rn.1)else st
def byR(s:SrcR)(plant day:Int)(c:List Int):List Int×Bool:=s.recs.zipIdx.foldl (gM plant day c) (List.replicate 32 (-1),false)
section
attribute [local go_sem] Oper.semAt_some
def ISt.go{s}{w}{cb:Nat}{J:List CfR->World->Prop}{c:List Int}{r j D:Nat}{pre:List CfR}{V V'}(hJ:AbX D 3 J)(h:ISt s w cb J c r j pre V)(hb:eB V V')(hw:w.heap.size<=V.heap.size):ISt s w cb J c r j pre V':=
 ⟨h.ok,h.rk,h.ls,h.pl,hJ.belowJ h.jj hb,fun x hx=>(h.own x hx).below hb (No _),h.row.below hb h.row.lt,h.below.trans (hb.mono hw),h.nx⟩
def Hs(nn l B:Nat)(s)(w W)(J:List CfR->World->Prop)(hS:ap w s)(hv:bB s=true)(hB:Blk w B (srcC s) 31)(hW:eB w W)(hJ:AbX W.heap.size 3 J)(hY:∀pre x W1,J pre W1->pre.length<4096->YieldAt Fence.wide (nn-1) prog l #[.slice x.a x.n x.k] W1 fun e W'=>e=.returned (.bool true)/\J (pre++[x]) W'/\aI 3 W1 W'/\Below w.heap.size W1 W'/\KeepsWalks W1 W')(h0:J [] W) :CallsIn Fence.wide nn prog 194 #[.func (.yield l) #[] #[],.pointer B] W fun e W'=>(∃v,e=.returned v)/\∃xs:List CfR,(xs.map (·.c)=fd s/\∀x∈xs,aa W' w.heap.size 3 1 x.v (x.c.map af))/\J xs W':=by
 have cb:=nT;have HS:=MY (fun(V:World)(hV:eB w V)=>hS.below hV);have HY:=MY hY;have HJ:=MY hJ;have bh:=MY (Gu hv);have bs:=MY (tc hv);have ag:=MY hS.opt;obtain⟨A,cap,ev,al,h⟩:=hS.opts;have HO:=MY h;have hl:=hS.ol;unfold BIG at hl;rw[N6]at al ev;obtain⟨m,hm⟩:=nm s.opts.length;have HM:=MY hm;rw[hm]at hl al ev;have ar:Hid (∀V,eB w V->Blk V B [s.uv,s.iv,s.pv,s.mv,.slice A m cap,s.fv,s.rv,s.sv] 31):=by
  intro V hV;have:=hB.below hV hB.lt;unfold srcC at this;rw[ev]at this;exact this
 have HW:=MY hW;have ch:=ye m hl;have q4:=((ar.out W hW).at 4 _ rfl).1;have O0:Hid (OSt s w W.heap.size J (List.replicate m 0) (many s.opts) [] (W.alloc (.cells (List.replicate m (Value.int .i64 0)).toArray 3))):=by
  have e:List.replicate m (0:Int)=iX s.opts:=by unfold iX;rw[List.map_const',hm]
  refine⟨by rw[e];exact sW bh.out,by rw[e,pS];omega,by rw[e];rfl,by simp,hJ.belowJ h0 (ak _ _),by simp,?_,hW.trans ((ak W _).mono hW.size)⟩;rw[List.map_replicate];exact Blk.new _ _ _
 have br:=MY ev;have bv:B<w.heap.size:=hB.lt;have bp:=MY bv;refine callsIn_of_wp func194 rfl trivial ?_ rfl;simp only[ntmps194,NV,M6,ND,Nat.reduceAdd,Nat.reduceSub,NZ,N0,N1,N2,M9,MZ];refine wpIn_wide.2 ?_;go_wp2_with fail;go_loopw [4] (fun i V=>∃(c:List Int)(r:Nat) (pre:List CfR),Hid (OSt s w W.heap.size J c r pre V)) (fun _ V=>many s.opts-bC s.opts (pZ V W.heap.size))
 case atStart=>exact⟨_,_,_,O0.out⟩
 case round=>
  obtain⟨c,r,pre,O⟩:=hrel;obtain⟨r,rfl⟩:=O.le;have ao:=O.len;rw[HM.out]at ao;have ad:=MY ao;have bo:=MY (yt O.row);have bt:=MY O.rk;have HC:=MY (RowC.of_blk O.row (c.map af) (yf c).symm (k:=1) (by simp[af]) (n:=m) (by simp[ao]) m (No _));have HP:=MY (FZ s (.slice W.heap.size m m) c wr (HS.out _ O.below) HC.out (by rw[ao];exact hl));unfold cS at HP;rw[br.out]at HP;have y:=ar.out _ O.below;obtain⟨q0,q1,q2,q3,q4,q5,q6,q7⟩:=pa y;have bi:=MY O.below.size;obtain⟨pb,bn⟩:=nm (dR s c);have bg:=MY bn;rw[bn]at HP;refine(wpIn_wide (n:=nn)).1 ?_
  cases pb
  case' false=>
   gi_wp2;refine⟨trivial,fun e=>by simp[Fence.wide]at e,(callsIn_wide.2 HP.out).mono ?_⟩;rintro e w1 ⟨rfl,av⟩;have I1:=MY ((O.skip bg.out).go HJ.out av bi.out);gi_wp2;refine⟨trivial,?_⟩;gi_wp2;refine⟨fun _ e=>(by cases e),?_⟩;gi_wp2;obtain⟨ab,ax⟩:∃p,p=pre:=⟨_,rfl⟩
   rw[<-ax]at I1
  case' true=>
   gi_wp2;refine⟨trivial,fun e=>by simp[Fence.wide]at e,(callsIn_wide.2 HP.out).mono ?_⟩;rintro e w1 ⟨rfl,av⟩;have an:=MY av;gi_wp2;refine⟨trivial,fun e=>by simp[Fence.wide]at e,(callsIn_wide.2 (yi ⟨W.heap.size,0,none⟩ m m c w1 (HC.below an.out) (by rw[ad.out];exact hl))).mono ?_⟩;rintro e w2 ⟨bw,v,rfl,aA⟩;obtain⟨Ac,kc,rfl⟩:=aA.slice;rw[N6,ad.out]at aA⊢;have bc:=MY (an.trans (bw.mono an.size));have bu:=MY (aA.less (show W.heap.size+1<=w1.heap.size by have:=an.size;have:=O.row.lt;omega));obtain⟨fn,tmps,assign,body,hy,hR⟩:=HY.out pre ⟨Ac,m,kc,c⟩ w2 (HJ.belowJ O.jj bc.out) (by have:=O.pl;have:=bs.out;omega);gi_wp2;refine⟨fun e=>by simp[Fence.wide]at e,hR.mono ?_⟩;rintro e W3 ⟨rfl,bx,ca,cc,_⟩;have I1:=MY (O.took bg.out Ac m kc bu.out bc.out bx ca cc bi.out);gi_wp2;obtain⟨ab,ax⟩:∃p,p=pre++[⟨Ac,m,kc,c⟩]:=⟨_,rfl⟩
   rw[<-ax]at I1
  all_goals
   refine wpIn_wide.2 ?_
   go_loopw [4] (fun i V=>∃(j:Nat)(z:Int),i=.int .i64 z/\Hid (z=(j:Int)-1)/\j<=m/\Hid (ISt s w W.heap.size J c r j ab V)) (fun i _=>(intOf i+1).toNat)
   case atStart=>exact⟨c.length,_,rfl,(by show _=_;rw[ad.out]),by rw[ad.out];exact No _,I1.out⟩
   case round=>
    obtain⟨j,z,rfl,HZ,hj,I⟩:=hrel
    have z1:=I.row.lt
    have z2:B<wr.heap.size:=Nf bp.out I.below.size
    have q4:=((ar.out _ I.below).at 4 _ rfl).1
    cases j with
    |zero=>
     have hz:z<0:=by have:=HZ.out;omega
     have g1:decide (0<=z)=false:=by simpa using hz
     go_wp2_with fail
     refine aJ (S:=fun w'=>(∀c o,c<wr.heap.size->w'.cell? ⟨c,o,none⟩=wr.cell? ⟨c,o,none⟩)) [0,1,2,3,4,5,6,7,8,9,10,11,12,13,14,15,16] (fun c o _=>rfl) (fun ac=>?_)
     repeat refine ay ?_
     refine aj ?_
     have HI:=MY (I.go HJ.out ((NB _ wr).drew) I.below.size)
     go_wp2_with fail
     gi_wp2
     refine bodyPost_ret (results_none rfl _ _ _) rfl ?_
     exact⟨⟨_,rfl⟩,ab,⟨HI.fin,fun x hx=>(HI.own x hx).less (by have:=HW.size;omega)⟩,HI.jj⟩
    |succ j=>
     obtain rfl:z=(j:Int):=by have:=HZ.out;omega
     obtain⟨x,hx⟩:=gx (l:=c) (i:=j) (by have:=ad.out;omega)
     obtain⟨o,ho⟩:=gx (l:=s.opts) (i:=j) (by have:=HM.out;omega)
     obtain⟨bb,off,rfl,bk,hc⟩:=HO.out j (bX o) (by rw[Ou,ho];rfl)
     have ba:=(iY.1 I.ok).2 j o x ho hx
     obtain⟨Ao,co,eo⟩:=(ag.out o (Oc ho)).1.len
     rw[N6]at eo
     have bm:=(ag.out o (Oc ho)).2
     unfold BIG at bm
     obtain⟨no,bl⟩:=nm o.choices.length
     have bd:=MY bl
     rw[bl]at eo ba bm
     have q5:=(I.below.cell (p:=⟨bb,_,none⟩) bk).trans (hc 1 _ rfl)
     rw[eo]at q5
     have ql:((c.take (j+1)++List.replicate (c.length-(j+1)) 0).map bY)[j]? = some (.int .i64 x):=by
      rw[Ou,N4 (by rw[Nz];have:=ad.out;omega),NR,if_pos (by omega),hx];rfl
     obtain⟨q6,f6⟩:=I.row.at j _ ql
     have z3:bb<wr.heap.size:=Nf bk I.below.size
     obtain⟨cd,cf⟩:=ix (k:=j) (n:=m)
     have g1:decide ((0:Int)<=(j:Int))=true:=by simp
     have ci:=ba.1
     have cl:=ba.2
     have gw:IntKind.i64.wrap ((no:Int)-1)=(no:Int)-1:=by rw[NC];omega
     have HX:=MY hx
     have be:=MY ho
     by_cases he:x=(no:Int)-1
     ·have g2:(x==(no:Int)-1)=true:=by simpa using he
      have HE:=MY he
      go_wp2_with fail
      refine aJ (S:=fun w'=>(∀c o,c<wr.heap.size->w'.cell? ⟨c,o,none⟩=wr.cell? ⟨c,o,none⟩)) [0,1,2,3,4,5,6,7,8,9,10,11,12,13,14,15,16] (fun c o _=>rfl) (fun ac=>?_)
      repeat refine ay ?_
      refine aj ?_
      have HI:=MY ((I.go HJ.out ((NB _ wr).drew) I.below.size).down HJ.out (No _) HW.size be.out HX.out (by rw[HE.out,bd.out]))
      go_wp2
      go_roundw
      case rel=>exact⟨j,_,rfl,(by show _=_;rfl),by omega,HI.out⟩
      case measure=>simp[intOf]
     ·have g2:(x==(no:Int)-1)=false:=by simpa using he
      have HE:=MY he
      go_wp2_with fail
      refine aJ (S:=fun w'=>(∀c o,c<wr.heap.size->w'.cell? ⟨c,o,none⟩=wr.cell? ⟨c,o,none⟩)) [0,1,2,3,4,5,6,7,8,9,10,11,12,13,14,15,16] (fun c o _=>rfl) (fun ac=>?_)
      repeat refine ay ?_
      refine aj ?_
      have HI:=MY ((I.go HJ.out ((NB _ wr).drew) I.below.size).up HJ.out (No _) HW.size bh.out be.out HX.out (by rw[bd.out];exact HE.out))
      have g3:decide ((j:Int)<0)=false:=by simp
      go_wp2_with fail
      gi_wp2
      refine⟨⟨_,r,ab,HI.out⟩,?_⟩
      have e1:=yt HI.row
      have e2:=HI.rk
      have e3:=bt.out
      show many s.opts-bC s.opts (pZ (wr.drew.setCell ⟨W.heap.size,j,none⟩ (.int .i64 (x+1))) W.heap.size)<_
      rw[e1,bo.out]
      omega
def Ht(nn B:Nat)(s)(w)(hS:ap w s)(hv:bB s=true)(hB:Blk w B (srcC s) 31) :nK Fence.wide nn prog 194 #[.pointer B] (fun x:CfR=>#[.slice x.a x.n x.k]) 3 (fun xs W=>xs.map (·.c)=fd s/\∀x∈xs,aa W w.heap.size 3 1 x.v (x.c.map af)) 4096 w:=
 fun l J W hW hJ hY h0=>Hs nn l B s w W J hS hv hB hW hJ hY h0
end
section
attribute [local go_sem] Oper.semAt_some
def aa.heap{w}{B k g:Nat}{T}{v}{L:List (List Value)}(h:aa w B T k v L)(hg:v.ownBlock=some g):∃cur,w.heap[g]? = some (.cells cur T (0,0)):=by
 obtain⟨⟨h1,h2⟩,h3⟩:=h;rcases h2 with⟨rfl,_⟩|⟨g',cap,cur,rfl,_,hc,r⟩
 ·cases hg
 ·cases hg;exact⟨cur,hc⟩
def aa.turn{w w'}{B D k:Nat}{T T'}{v}{L:List (List Value)}{row:Option Nat}(h:aa w B T k v L)(hT:T≠T')(hg:w.grownBy w' row)(hr:∀r,row=some r->D<=r/\∃o:Obj,w.heap[r]? = some o/\(o.isCells=false\/∃cs fr,o=Obj.cells cs T' fr)):aa w' B T k v L:=
 h.of_block fun g e=>hg.block g (h.lt e) fun e2=>by
  obtain⟨cur,hc⟩:=h.heap e;obtain⟨_,o,ho,ab⟩:=hr g e2.symm;rw[hc]at ho
  cases ho;rcases ab with ab|⟨cs,fr,ab⟩
  ·simp[Obj.isCells]at ab
  ·injection ab with _ e3 _;exact hT e3
def yO(w:World)(s:SrcR)(e:Ending)(w':World):Prop:=
 eB w w'/\∃(v:Value)(xs:List CfR),e=.returned v/\xs.map (·.c)=fd s/\RowC w' 1 v (xs.map fun x=>[x.v])/\∀x∈xs,RowC w' 1 x.v (x.c.map af)
def Hu:bE prog 205 32 1 24:=bE.mk' (z:= .slice none 0 0) underlying205 (by kernel_rfl) (by decide)
def Hv{P}{t e}{k bytes:Nat}(hI:bE P t e k bytes)(ty)(w)(B:Nat)(v)(L:List (List Value))(ac:aa w B e k v L)(g c:Nat)(xc)(T)(hb:Blk w g xc T)(hl:xc.length=k)(h1:(xc.all fun u=>u.oneCell')=true)(ar:L.length<=16777216)(ab:B<=w.heap.size) :∃v' w',(Builtin.append_ #[t,t] ty #[v,.slice g 1 c]).run P w=.ok v' w'/\aa w' B e k v' (L++[xc])/\w.grownBy w' v.ownBlock:=by
 obtain⟨i,z,ht,hi,hz,ad,ao,av,hk,ag⟩:=hI;have an:(L.length+1)*bytes<=140737488355328:=Nv (Nat.mul_le_mul (show L.length+1<=16777217 by omega) ag) (by omega);obtain⟨v',w',al,h2,h3,h4⟩:=vX (P:=P) w B t ty e i z k bytes ht hi hz ad ao av hk v L.length L.flatten ac.1 (g+1) (some ⟨g,0,none⟩) 1 c xc (pd hb (by omega)) (fun u hu=>Od.1 h1 u hu) (by unfold maxLen;omega) an ab;refine⟨v',w',al,⟨?_,?_⟩,h3⟩
 ·rw[Oe,List.flatten_append];simpa using h2
 ·intro c hc;rcases Of.1 hc with hc|hc
  ·exact ac.2 c hc
  ·simp only[Og,Oh,or_false]at hc;subst hc;exact hl
def nU{F:Fence}{n:Nat}{P}{ops}{rest}{o:Oper}{a:Act}{w}{Q}{t e}{k bytes:Nat}(hI:bE P t e k bytes)(ao:o.guard=none)(s x)(ho:o.op=.call {callee:= .builtin .append,args:=#[s,x],argTypes:=#[t,t]})(B:Nat)(v)(L:List (List Value))(hs:a.eval s=v)(ad:aa w B e k v L)(g c:Nat)(xc)(T)(hx:a.eval x=.slice g 1 c)(hb:Blk w g xc T)(hl:xc.length=k)(h1:(xc.all fun u=>u.oneCell')=true)(ac:L.length<=16777216)(ab:B<=w.heap.size)(h:∀v' w',aa w' B e k v' (L++[xc])->w.grownBy w' v.ownBlock->wpListIn F n P ops Q rest (a.put o.dst v') w'):wpListIn F n P ops Q (o::rest) a w:=by
 refine wpListIn_plain ao fun K al=>?_;obtain⟨v',w',ag,r1,r2⟩:=Hv hI o.type w B v L ad g c xc T hb hl h1 ac ab;unfold Oper.wpIn;refine⟨?_,?_⟩
 ·simp[Oper.about,ho,resolve,Target.leads,NN]
 ·rw[Oper.semAt_plain F _ _ (by rw[ho];intro c an;cases an)];simp[execOp,ho,resolve,invoke,builtin,hs,hx,ag,Result.andThen];exact al _ _ (h v' w' r1 r2)
def Hw(B:Nat)(s)(w)(hS:ap w s)(hv:bB s=true)(hB:Blk w B (srcC s) 31) :Calls prog 193 #[.slice none 0 0,.func (.func 194) #[] #[.pointer B]] w (yO w s):=by
 refine(callsIn_wide (n:=9)).1 ?_;refine callsIn_of_wp_marks func193 rfl trivial ?_ rfl;refine wpIn_wide.2 ?_;simp only[ntmps193,NV,M6,ND,Nat.reduceAdd,Nat.reduceSub,NZ,N0,N1,N2,M9,MZ];go_wp2_with fail;refine(wpIn_wide (n:=9)).1 ?_;obtain⟨w1,ad⟩:=nm (w.alloc (.cells #[.slice none 0 0] 205));have c1:Blk w1 w.heap.size [.slice none 0 0] 205:=by rw[<-ad];exact Blk.new w _ _
 have ag:eB w w1:=by rw[<-ad];exact(NB w.heap.size w).alloc (No _) _
 have ax:w1.heap.size=w.heap.size+1:=by rw[<-ad];simp
 rw[ad];refine' yh rfl (by omega) (gf:=194) (lb:=#[.pointer B]) rfl trivial (enters_of func194 (by kernel_rfl) rfl)
  (Ht 8 B s w hS hv hB) ag (fun _=>rfl)
  (fun pre W=>∃v,Blk W w.heap.size [v] 205/\aa W (w.heap.size+1) 32 1 v (pre.map fun x=>[.slice x.a x.n x.k])/\eB w W)
  ?hI ?hS ⟨_,c1,aa.none_ _ _ _ _,ag⟩ _ ?assign ?body ?done
 case hI=>
  rintro pre A C row ⟨v,h1,h3,h2⟩ hg hr;exact⟨v,h1.grown hg (fun e=>by have:=(hr _ e.symm).1;omega),h3.turn (by decide) hg hr,h2.grown hg h2.size (fun k e=>by have:=(hr k e).1;omega)⟩
 case hS=>
  rintro xs A C row ⟨h1,h2⟩ hg hr;refine⟨h1,fun x hx=>(h2 x hx).of_block fun g e=>hg.block g ((h2 x hx).lt e) fun e2=>?_⟩;obtain⟨cur,hc⟩:=(h2 x hx).heap e;obtain⟨_,o,ho,ar⟩:=hr g e2.symm;rw[hc]at ho
  cases ho;simp[Obj.isCells]at ar
 case assign=>
  intro l x W K hK;gi_wp2;exact hK
 case body=>
  rintro l pre x W ⟨v,h1,h3,h2⟩ hp;obtain⟨q0,f0⟩:=h1.at 0 _ rfl;have av:=h1.lt;obtain⟨A,cc,rfl⟩:=h3.slice;rw[N6]at h1 h3 q0;have H3:=MY (h3.alloc (.cells #[.slice x.a x.n x.k] 32));have H1:=MY (h1.alloc (.cells #[.slice x.a x.n x.k] 32));have X3:=MY (Blk.new W [.slice x.a x.n x.k] 32);have HL:=MY h2;have an:Hid ((pre.map fun x=>[Value.slice x.a x.n x.k]).length<=16777216):=by show _<=_;rw[N6];omega
  have ao:Hid (w.heap.size+1<=(W.alloc (.cells #[.slice x.a x.n x.k] 32)).heap.size):=by show _<=_;simp;omega
  gi_wp2_with (gi_at_builtin;refine nU Hu rfl (.tmp 8) (.tmp 10) rfl (w.heap.size+1) (.slice A pre.length cc) (pre.map fun x=>[.slice x.a x.n x.k]) rfl H3.out W.heap.size 1 [.slice x.a x.n x.k] 32 rfl X3.out rfl rfl an.out ao.out ?_;intro v' w' ho hg;obtain⟨A',c',rfl⟩:=ho.slice;have HG:=MY hg;have HO:=MY ho;have HN:=MY (H1.ownG H3.out (by decide) hg);obtain⟨q1,f1⟩:=HN.at 0 _ rfl;clear ho hg);have ab:∀(j:Nat)(o:Obj),(Value.slice A pre.length cc).ownBlock=some j->(W.alloc (.cells #[.slice x.a x.n x.k] 32)).heap[j]? = some o->∃cur,o=Obj.cells cur 32 (0,0):=by
   intro j o e hj;obtain⟨cur,hc⟩:=H3.heap e;rw[hc]at hj
   cases hj;exact⟨_,rfl⟩
  have al:Below w.heap.size W w':=j8 ((NB w.heap.size W).alloc HL.size _) H3.out HG.out (by omega) (by have:=HL.size;simp;omega);refine⟨?k,?t,?b,.slice A' (pre.length+1) c',?blk,?own,?below⟩
  case k=>exact((KeepsOthers.alloc _ _).trans (KeepsOthers.of_grownBy HG.out (fun j o e hj=>by obtain⟨cur,rfl⟩:=ab j o e hj;rfl))).trans (Oa _ _ _)
  case t=>
   refine((aI.grown (ON W _ none) (fun r cs fr e=>by cases e)).trans (aI.grown HG.out (fun r cs fr e h=>by obtain⟨cur,h⟩:=ab r _ e h;injection h with _ h _;revert h;decide))).trans (aI.grown (gh w' w.heap.size 0 _) (fun r cs fr e h=>?_))
   cases e;have h':w'.heap[w.heap.size]? = some (.cells _ _ _):=HN.out;rw[h]at h';injection h' with h';injection h' with _ h' _;revert h';decide
  case b=>exact al.setCell (p:=⟨w.heap.size,0,none⟩) (No _) _
  case blk=>exact HN.set 0 _
  case own=>
   rw[N9];have:=HO.off (b:=w.heap.size) (i:=0) (by omega) (.slice A' (pre.length+1) c');rw[Oe,N6,OP]at this;exact this
  case below=>exact(HL.trans al).setCell (p:=⟨w.heap.size,0,none⟩) (No _) _
 case done=>
  rintro D xs W hD ⟨h4,h5⟩ ⟨v,h1,h3,h2⟩ hK;obtain⟨q0,f0⟩:=h1.at 0 _ rfl;have HR:=MY h3;have HL:=MY h2;have H5:=MY h5;have H4:=MY h4;obtain⟨A,cc,rfl⟩:=HR.slice;go_wp2;refine⟨by simp,.inl ⟨_,_,rfl,run_takeDeferred hK,?_⟩⟩;have ac:∀(B k:Nat)(T:TypeId) (v:Value) (L:List (List Value)),aa W B T k v L->aa (W.putObj D (.deferred none)) B T k v L:=fun B k T v L h=>h.of_block fun g e=>OM (fun e2=>by
   obtain⟨cur,hc⟩:=h.heap e;rw[e2,hK]at hc
   cases hc)
  refine⟨.slice A xs.length cc,by simp[results,results193,go_sem],?_⟩;refine⟨HL.trans (belowK_b (w:=w) (No _) W D _ _ (by omega) hK rfl rfl),_,xs,rfl,H4.out,(by have:=(ac _ _ _ _ _ HR.out).row;rw[N6]at this;exact this),fun x hx=>(ac _ _ _ _ _ (H5.out x hx)).row⟩
def yP(B:Nat)(s)(w)(hS:ap w s)(hv:bB s=true)(hB:Blk w B (srcC s) 31):Calls prog 122 #[.func (.func 194) #[] #[.pointer B]] w (yO w s):=by
 have HC:=MY (Hw B s w hS hv hB);go_enter func122,ntmps122;go_wp2_with (go_at_call 193;refine HC.mono ?_;rintro e w1 ⟨ab,v,xs,rfl,h1,⟨A,c,rfl,h2⟩,h3⟩);go_ret;refine⟨ab,.slice A (xs.map fun x=>[x.v]).length c,xs,?_,h1,⟨A,c,rfl,h2⟩,h3⟩;rw[N6];rfl
def yQ(s)(w)(hS:ap w s):Calls prog 123 #[cS s] w fun e w'=>e=.returned (.func (.func 194) #[] #[.pointer w.heap.size])/\w.alloc (.cells (srcC s).toArray 31)=w':=by
 have ab:=mF;obtain⟨A1,A2,A3,A4,A5,A6,A7,A8,k1,k2,k3,k4,k5,k6,k7,k8,e1,e2,e3,e4,e5,e6,e7,e8⟩:=hS.slices;unfold cS srcC;rw[e1,e2,e3,e4,e5,e6,e7,e8];go_enter func123,ntmps123;go_wp2;go_ret;exact⟨rfl,rfl⟩
end
def kL{α β:Type}{f:α->Option β}{l:List α}{m:List β}(h:mapO f l=some m){y:β}(hy:y∈m):∃x∈l,f x=some y:=by
 obtain⟨k,hk⟩:=List.mem_iff_getElem?.1 hy;have ab:k<l.length:=by rw[<-cA h];exact(NQ.1 hk).1
 obtain⟨z,hz,e⟩:=nR h (Nx ab);rw[hk]at hz
 cases hz;exact⟨_,OG ab,e⟩
structure bK(n m:Nat)(R:List (List Rt)):Prop where
 len:R.length=n
 row:∀r∈R,r.length=m/\∀x∈r,x.ok
def bK.at{n m:Nat}{R:List (List Rt)}(h:bK n m R){i:Nat}(hi:i<n):∃r,R[i]? = some r/\r.length=m/\∀x∈r,x.ok:=by
 have ab:i<R.length:=by rw[h.len];exact hi
 exact⟨R[i],Nx ab,h.row _ (OG ab)⟩
def ut{R:List (List Rt)}{i j:Nat}{r}{x}(hr:R[i]? = some r)(hx:r[j]? = some x):at2 R i j=x:=by
 unfold at2;rw[Oq,Oq,hr,Ot,hx,Ot]
def bK.num{n m:Nat}{R:List (List Rt)}(h:bK n m R){i j:Nat}(hi:i<n)(hj:j<m):∃r x,R[i]? = some r/\r[j]? = some x/\at2 R i j=x/\x.ok:=by
 obtain⟨r,hr,hm,hx⟩:=h.at hi;have ab:j<r.length:=by rw[hm];exact hj
 exact⟨r,_,hr,Nx ab,ut hr (Nx ab),hx _ (OG ab)⟩
def bK.set{n m:Nat}{R:List (List Rt)}(h:bK n m R)(p:Nat){r:List Rt}(hr:r.length=m)(hx:∀x∈r,x.ok):bK n m (R.set p r):=
 ⟨by simp[h.len],fun q hq=>by
  rcases List.mem_or_eq_of_mem_set hq with h1|rfl
  ·exact h.row q h1
  ·exact⟨hr,hx⟩⟩
def zU{R:List (List Rt)}{tk:Nat->Bool}{j p:Nat}(h:pivR R tk j=some p):p<R.length/\tk p=false/\(at2 R p j).n≠0:=by
 unfold pivR at h;have h1:=List.find?_some h;have h2:=List.mem_of_find?_eq_some h;simp at h1 h2;exact⟨h2,h1.1,h1.2⟩
def zV{n m p j:Nat}{R:List (List Rt)}{q}(h:bK n m R)(hp:p<n)(h0:(at2 R p j).n≠0)(e:scaleRow R p j=some q):q.length=m/\∀x∈q,x.ok:=by
 obtain⟨r,hr,hm,hx⟩:=h.at hp;unfold scaleRow at e;rw[Oq,hr,Ot]at e;refine⟨by rw[cA e,hm],fun x hx'=>?_⟩;obtain⟨y,hy,e'⟩:=kL e hx';exact wC e' (hx y hy) h0
def JV{m:Nat}{f:Rt}{q r c:List Rt}(hf:f.ok)(hq:q.length=m)(ab:∀x∈q,x.ok)(hr:r.length=m)(ac:∀x∈r,x.ok)(e:iy f q r=some c):c.length=m/\∀x∈c,x.ok:=by
 unfold iy at e;refine⟨by rw[cA e,List.length_zip,hr,hq,Nat.min_self],fun x hx=>?_⟩;obtain⟨⟨y,z⟩,hy,e'⟩:=kL e hx;have h1:=ac y (List.of_mem_zip hy).1;have h2:=ab z (List.of_mem_zip hy).2;simp only at e';split at e'
 ·rename_i t ht;exact py e' h1 (fB ht hf.2.2.1 h2.2.2.1)
 ·cases e'
def JW{n m p j:Nat}{R S:List (List Rt)}{q:List Rt}(h:bK n m R)(hj:j<m)(hq:q.length=m)(ab:∀x∈q,x.ok)(e:mapO (eJ j p q) R.zipIdx=some S):bK n m S:=by
 refine⟨by rw[cA e,List.length_zipIdx,h.len],fun r hr=>?_⟩;obtain⟨⟨r',i⟩,hi,e'⟩:=kL e hr;have ac:r'∈R:=by
  have:=List.mem_zipIdx hi;simp at this;rw[this.2];exact OG _
 obtain⟨h1,h2⟩:=h.row r' ac;unfold eJ at e';split at e'
 ·cases e';exact⟨h1,h2⟩
 ·refine JV ?_ hq ab h1 h2 e';rw[Oq,Nx (by simp only;omega),Ot];exact h2 _ (OG _)
structure qN(n m j:Nat)(s:ElS):Prop where
 rows:bK n m s.rows
 len:s.piv.length=j
 lt:∀q∈s.piv,∀i,q=some i->i<n
def JY{n m j:Nat}{s t:ElS}(h:qN n m j s)(hj:j<m)(e:gL s j=some t):qN n m (j+1) t:=by
 unfold gL at e;split at e
 ·cases e;exact⟨h.rows,by simp[h.len],fun q hq i hi=>by
   rcases Of.1 hq with h1|h1
   ·exact h.lt q h1 i hi
   ·rw[Oi]at h1;subst h1;cases hi⟩
 ·rename_i p hp;obtain⟨h1,h2,h3⟩:=zU hp;rw[h.rows.len]at h1;split at e
  ·cases e
  ·rename_i q hq;obtain⟨ab,ac⟩:=zV h.rows h1 h3 hq;split at e
   ·cases e
   ·rename_i S hS
    cases e;refine⟨JW (h.rows.set p ab ac) hj ab ac hS,by simp[h.len],fun q hq i hi=>?_⟩;rcases Of.1 hq with h4|h4
    ·exact h.lt q h4 i hi
    ·rw[Oi]at h4;subst h4;cases hi;exact h1
def og{n m:Nat}{R:List (List Rt)}(h:bK n m R):∀{j:Nat} {s:ElS},j<=m->elimTo R j=some s->qN n m j s
 |0,s,_,e=>by cases e;exact⟨h,rfl,fun q hq=>by cases hq⟩
 |j+1,s,hj,e=>by
  unfold elimTo at e;split at e
  ·rename_i t ht;exact JY (og h (by omega) ht) hj e
  ·cases e
def zW{R:List (List Rt)}:∀{j u:Nat},j<=u->elimTo R j=none->elimTo R u=none
 |j,0,hj,e=>by
  obtain rfl:j=0:=by omega
  exact e
 |j,u+1,hj,e=>by
  by_cases h:j=u+1
  ·rw[<-h];exact e
  ·unfold elimTo;rw[zW (show j<=u by omega) e]
def JZ{n:Nat}{a:List (List Rt)}{b:List Rt}(ha:bK n n a)(hb:b.length=n)(ab:∀x∈b,x.ok):bK n (n+1+n) (beginR a b):=by
 unfold beginR;refine⟨by simp[ha.len],fun r hr=>?_⟩;obtain⟨⟨q,i⟩,hq,rfl⟩:=List.mem_map.1 hr;have h3:=List.mem_zipIdx hq;simp at h3;have ac:q∈a:=by rw[h3.2];exact OG _
 obtain⟨h1,h2⟩:=ha.row q ac;refine⟨by simp[h1,ha.len];omega,fun x hx=>?_⟩;rcases Of.1 hx with hx|hx
 ·exact h2 x hx
 ·rcases Og.1 hx with rfl|hx
  ·have hi:i<b.length:=by rw[hb,<-ha.len];exact h3.1
   simp only;rw[Oq,Nx hi,Ot];exact ab _ (OG _)
  ·obtain⟨k,_,rfl⟩:=List.mem_map.1 hx;simp only;split
   ·exact jz
   ·exact jy
def AL(w:World)(s:SrcR)(e:Ending)(w':World):Prop:=
 eB w w'/\((bB s=false/\e=.returned (.tuple #[.slice none 0 0,.int .i64 130]))\/(bB s=true/\∃(v:Value)(xs:List CfR),e=.returned (.tuple #[v,.int .i64 0])/\xs.map (·.c)=fd s/\RowC w' 1 v (xs.map fun x=>[x.v])/\∀x∈xs,RowC w' 1 x.v (x.c.map af)))
def Lh(s)(w)(hS:ap w s):Calls prog 205 #[cS s] w (AL w s):=by
 have HV:=MY (fun W (hW:eB w W)=>sX s W (hS.below hW));have ac:=MY (fun W (hW:eB w W)=>yQ s W (hS.below hW));have ao:=MY (fun B W (hW:eB w W) (hv:bB s=true) (hB:Blk W B (srcC s) 31)=>yP B s W (hS.below hW) hv hB);obtain⟨A1,A2,A3,A4,A5,A6,A7,A8,k1,k2,k3,k4,k5,k6,k7,k8,e1,e2,e3,e4,e5,e6,e7,e8⟩:=hS.slices;obtain⟨n1,aA⟩:=nm s.units.length;obtain⟨n2,ba⟩:=nm s.items.length;obtain⟨n3,bb⟩:=nm s.plants.length;obtain⟨n4,bc⟩:=nm s.machs.length;obtain⟨n5,bd⟩:=nm s.opts.length;obtain⟨n6,be⟩:=nm s.forbs.length;obtain⟨n7,bg⟩:=nm s.recs.length;obtain⟨n8,bh⟩:=nm s.swaps.length;rw[aA]at e1;rw[ba]at e2;rw[bb]at e3;rw[bc]at e4;rw[bd]at e5;rw[be]at e6;rw[bg]at e7;rw[bh]at e8;have hq:srcC s=[.slice A1 n1 k1,.slice A2 n2 k2,.slice A3 n3 k3,.slice A4 n4 k4,.slice A5 n5 k5,.slice A6 n6 k6,.slice A7 n7 k7,.slice A8 n8 k8]:=by
  unfold srcC;rw[e1,e2,e3,e4,e5,e6,e7,e8]
 have bi:cS s=.agg #[.slice A1 n1 k1,.slice A2 n2 k2,.slice A3 n3 k3,.slice A4 n4 k4,.slice A5 n5 k5,.slice A6 n6 k6,.slice A7 n7 k7,.slice A8 n8 k8]:=by
  unfold cS;rw[e1,e2,e3,e4,e5,e6,e7,e8]
 rw[bi]at HV ac⊢;rw[hq]at ac ao;clear hq bi e1 e2 e3 e4 e5 e6 e7 e8 hS aA ba bb bc bd be bg bh;obtain⟨ov,al⟩:=nm (bB s);have ad:=MY al;rw[al]at HV;clear al;have K1:=MY (Blk.new w [.slice A1 n1 k1,.slice A2 n2 k2,.slice A3 n3 k3,.slice A4 n4 k4,.slice A5 n5 k5,.slice A6 n6 k6,.slice A7 n7 k7,.slice A8 n8 k8] 31);have B1:=MY (ak w (.cells ([.slice A1 n1 k1,.slice A2 n2 k2,.slice A3 n3 k3,.slice A4 n4 k4,.slice A5 n5 k5,.slice A6 n6 k6,.slice A7 n7 k7,.slice A8 n8 k8]).toArray 31));go_enter func205,ntmps205;go_wp2_with (refine wR 31 (ai K1.out) ?_);refine(HV.out _ B1.out).mono ?_;rintro e w2 ⟨rfl,ag⟩;have B2:=MY (B1.trans (ag.mono B1.size));have K2:=MY (K1.below ag K1.lt);clear ag B1 K1
 cases ov with
 |false=>
  go_wp2
  go_ret2
  exact⟨B2.out,.inl ⟨ad.out,rfl⟩⟩
 |true=>
 obtain⟨W3,ab⟩:=nm (w2.alloc (.cells ([.slice A1 n1 k1,.slice A2 n2 k2,.slice A3 n3 k3,.slice A4 n4 k4,.slice A5 n5 k5,.slice A6 n6 k6,.slice A7 n7 k7,.slice A8 n8 k8]).toArray 31));have B3:Hid (eB w W3):=by rw[<-ab];exact B2.alloc B2.size _
 have C3:Hid (Blk W3 w2.heap.size [.slice A1 n1 k1,.slice A2 n2 k2,.slice A3 n3 k3,.slice A4 n4 k4,.slice A5 n5 k5,.slice A6 n6 k6,.slice A7 n7 k7,.slice A8 n8 k8] 31):=by rw[<-ab];exact Blk.new _ _ _
 have ar:=MY ab;clear ab;go_wp2_with (first|(refine wR 31 (ai K2.out) ?_)|(go_at_call 123;refine(ac.out _ B2.out).mono ?_;rintro e w3 ⟨rfl,bk⟩;rw[ar.out]at bk;subst bk));refine(ao.out w2.heap.size W3 B3.out ad.out C3.out).mono ?_;rintro e w4 ⟨av,vC,xs,rfl,bl,an,ax⟩;have B4:=MY (B3.trans (av.mono B3.size));obtain⟨AC,cC,eC,_,_⟩:=id an;subst eC;have R4:=MY an;have C4:=MY ax;have bm:=MY bl;rw[N6];clear an ax bl av B3 C3 ar B2 K2;go_wp2;go_ret2;exact⟨B4.out,.inr ⟨ad.out,_,xs,rfl,bm.out,by have:=R4.out;rw[N6]at this;exact this,C4.out⟩⟩
def usesR(s:SrcR)(q:Rt)(out:Bool):List aw->Option (List d9)
 |[]=>some []
 |a::l=>match amtR s a with
  |some x=>match mulR x q with
   |some y=>match usesR s q out l with
    |some m=>some (⟨a.itemNo,y,out,!out&&a.back⟩::m)
    |none=>none
   |none=>none
  |none=>none
def worksR(q:Rt)(l:List cO):Option (List (Int×Int)):=if l.isEmpty then some []else match ceilR q with
 |some k=>if 1099511627776<k then none else some (l.map fun x=>(x.machNo,x.slots*k))
 |none=>none
def needR(s:SrcR)(r:RecR)(g amt:Rt):Option (List d9×List (Int×Int)):=match divR amt g with
 |some q=>match usesR s q false r.ins with
  |some u=>match usesR s q true r.outs with
   |some o=>match worksR q r.runs with
    |some w=>some (u++o,w)
    |none=>none
   |none=>none
  |none=>none
 |none=>none
section
variable {code:List In} {ch:List Int} {day:Int} {amt:Rt}
def dV.stop1{s:Mst}{x:In}{e:Int}(hx:code[s.next]? = some x)(h:∀f,∃s',stepI ch day amt x {s with fuel:=f,next:=s.next+1}=.stop e s'):dV code ch day amt s fun R=>R.1=e:=
 dV.stop hx fun f=>by obtain⟨s',h⟩:=h f;exact⟨s',h,rfl⟩
def uZ{s}{op:Int}{bk:aw->Int}{out:Bool}(ac:op=4/\bk=gi/\out=false\/op=5/\bk=(fun _=>0)/\out=true):∀(l:List aw)(us ab:List In) (st:Mst) (p:Nat),amtsI s op bk l=some us->code.drop p=us++ab->(∀m,usesR s st.bat out l=some m->bJ code ch day amt (st.at p) (Mst.at {st with uses:=st.uses++m} (p+us.length)))/\(usesR s st.bat out l=none->dV code ch day amt (st.at p) fun R=>R.1=2)
 |[],us,ab,st,p,hu,h=>by
  simp only[amtsI,Option.some.injEq]at hu;subst hu;refine⟨fun m hm=>?_,fun hm=>by simp[usesR]at hm⟩;simp only[usesR,Option.some.injEq]at hm;subst hm;simpa using bJ.refl _
 |a::l,us,ab,st,p,hu,h=>by
  simp only[amtsI]at hu;split at hu
  next x hx=>
   split at hu
   next m0 hm0=>
    cases hu;obtain⟨h1,h2⟩:=fK h;simp only[usesR,hx]
    cases hy:mulR x st.bat with
    |none=>
     refine⟨fun m hm=>(by cases hm),fun _=>dV.stop1 (s:=st.at p) h1 fun f=>?_⟩
     rcases ac with⟨rfl,rfl,rfl⟩|⟨rfl,rfl,rfl⟩
     ·refine⟨{st with fuel:=f,next:=p+1},?_⟩
      unfold stepI
      rw[if_neg (by show ¬(4:Int)=1;decide),if_neg (by show ¬(4:Int)=2;decide),if_neg (by show ¬(4:Int)=3;decide),if_pos (show(bO 4 a.itemNo (gi a) x).op=4 from rfl),lJ]
      simp only[Mst.at,hy]
     ·refine⟨{st with fuel:=f,next:=p+1},?_⟩
      unfold stepI
      rw[if_neg (by show ¬(5:Int)=1;decide),if_neg (by show ¬(5:Int)=2;decide),if_neg (by show ¬(5:Int)=3;decide),if_neg (by show ¬(5:Int)=4;decide),if_pos (show(bO 5 a.itemNo 0 x).op=5 from rfl),lJ]
      simp only[Mst.at,hy]
    |some y=>
     have ad:bJ code ch day amt (st.at p) (Mst.at {st with uses:=st.uses++[⟨a.itemNo,y,out,!out&&a.back⟩]} (p+1)):=by
      refine bJ.step h1 (fun f=>?_) (by show p<p+1;omega);rcases ac with⟨rfl,rfl,rfl⟩|⟨rfl,rfl,rfl⟩
      ·unfold stepI;rw[if_neg (by show ¬(4:Int)=1;decide),if_neg (by show ¬(4:Int)=2;decide),if_neg (by show ¬(4:Int)=3;decide),if_pos (show(bO 4 a.itemNo (gi a) x).op=4 from rfl),lJ];simp only[Mst.at,hy];have e:(((bO 4 a.itemNo (gi a) x).B==1):Bool)=a.back:=by
        unfold bO gi
        cases a.back <;> simp
       rw[e];simp[bO]
      ·unfold stepI;rw[if_neg (by show ¬(5:Int)=1;decide),if_neg (by show ¬(5:Int)=2;decide),if_neg (by show ¬(5:Int)=3;decide),if_neg (by show ¬(5:Int)=4;decide),if_pos (show(bO 5 a.itemNo 0 x).op=5 from rfl),lJ];simp only[Mst.at,hy];simp[bO]
     obtain⟨h3,h4⟩:=uZ ac l m0 ab {st with uses:=st.uses++[⟨a.itemNo,y,out,!out&&a.back⟩]} (p+1) hm0 h2
     simp only at h3 h4⊢
     refine⟨fun m hm=>?_,fun hm=>?_⟩
     ·split at hm
      next m1 hm1=>
       cases hm
       have:=ad.trans (h3 m1 hm1)
       rw[OL]at this
       rw[M6,show p+(m0.length+1)=p+1+m0.length by omega]
       exact this
      next=>cases hm
     ·split at hm
      next=>cases hm
      next hm1=>exact ad.ends (h4 hm1)
   next=>cases hu
  next=>cases hu
def Bl{k:Nat}{st:Mst}(hc:ceilR st.bat=some k)(hk:¬1099511627776<k):∀(l:List cO) (ws:List (Int×Int)) (ab:List In) (p:Nat),code.drop p=dU l++ab->bJ code ch day amt (Mst.at {st with works:=ws} p) (Mst.at {st with works:=ws++l.map fun x=>(x.machNo,x.slots*(k:Int))} (p+l.length))
 |[],ws,ab,p,h=>by simpa using bJ.refl _
 |x::l,ws,ab,p,h=>by
  obtain⟨h1,h2⟩:=fK (show code.drop p=opI 6 x.machNo x.slots::(dU l++ab)from h);have h3:=Bl hc hk l (ws++[(x.machNo,x.slots*(k:Int))]) ab (p+1) h2;have ac:bJ code ch day amt (Mst.at {st with works:=ws} p) (Mst.at {st with works:=ws++[(x.machNo,x.slots*(k:Int))]} (p+1)):=by
   refine bJ.step h1 (fun f=>?_) (by show p<p+1;omega);unfold stepI;rw[if_neg (by show ¬(6:Int)=1;decide),if_neg (by show ¬(6:Int)=2;decide),if_neg (by show ¬(6:Int)=3;decide),if_neg (by show ¬(6:Int)=4;decide),if_neg (by show ¬(6:Int)=5;decide),if_pos (show(opI 6 x.machNo x.slots).op=6 from rfl)];simp only[Mst.at,hc,if_neg hk];rfl
  have:=ac.trans h3;rw[OL]at this;rw[M6,show p+(l.length+1)=p+1+l.length by omega];exact this
def Mn{st:Mst}(hc:∀k,ceilR st.bat=some k->1099511627776<k){x:cO}{ab:List In}{p:Nat}(h:code.drop p=opI 6 x.machNo x.slots::ab):dV code ch day amt (st.at p) fun R=>R.1=2:=by
 obtain⟨h1,h2⟩:=fK h;refine dV.stop1 (s:=st.at p) h1 fun f=>?_;refine⟨{st with fuel:=f,next:=p+1},?_⟩;unfold stepI;rw[if_neg (by show ¬(6:Int)=1;decide),if_neg (by show ¬(6:Int)=2;decide),if_neg (by show ¬(6:Int)=3;decide),if_neg (by show ¬(6:Int)=4;decide),if_neg (by show ¬(6:Int)=5;decide),if_pos (show(opI 6 x.machNo x.slots).op=6 from rfl)];simp only[Mst.at]
 cases hk:ceilR st.bat with
 |none=>rfl
 |some k=>simp only;rw[if_pos (hc k hk)]
def kT(s:SrcR)(r:RecR)(g amt:Rt)(R:Int×Mst):Prop:=match needR s r g amt with
 |some (u,w)=>R.1=0/\R.2.lead=r.lead/\R.2.uses=u/\R.2.works=w
 |none=>R.1=2
def Mo{s}{r}{g}{no:Nat}{b al:List In}{st:Mst}{p:Nat}(hg:goodR s r=some g)(hb:bodyR s no r=some b)(h:code.drop p=b++al)(hu:st.uses=[])(hw:st.works=[]):dV code ch day amt (st.at p) (kT s r g amt):=by
 unfold bodyR at hb;rw[hg]at hb;simp only at hb;split at hb
 next ui hui=>
  split at hb
  next uo huo=>
   cases hb;simp only[MZ]at h;obtain⟨h1,h2⟩:=fK h;unfold kT needR
   cases hq:divR amt g with
   |none=>
    refine dV.stop1 (s:=st.at p) h1 fun f=>⟨{st with fuel:=f,next:=p+1},?_⟩
    unfold stepI
    rw[if_neg (by show ¬(3:Int)=1;decide),if_neg (by show ¬(3:Int)=2;decide),if_pos (show(bO 3 (no:Int) r.lead g).op=3 from rfl),lJ]
    simp only[hq];rfl
   |some q=>
    have an:bJ code ch day amt (st.at p) (Mst.at {st with bat:=q,lead:=r.lead} (p+1)):=by
     refine bJ.step h1 (fun f=>?_) (by show p<p+1;omega);unfold stepI;rw[if_neg (by show ¬(3:Int)=1;decide),if_neg (by show ¬(3:Int)=2;decide),if_pos (show(bO 3 (no:Int) r.lead g).op=3 from rfl),lJ];simp only[hq];rfl
    refine an.ends ?_
    simp only[OL]at h2
    obtain⟨a1,a2⟩:=uZ (amt:=amt) (ch:=ch) (day:=day) (Or.inl ⟨rfl,rfl,rfl⟩) r.ins ui _ {st with bat:=q,lead:=r.lead} (p+1) hui h2
    simp only at a1 a2⊢
    cases hU:usesR s q false r.ins with
    |none=>exact a2 hU
    |some mi=>
     have h3:=qa h2
     refine(a1 mi hU).ends ?_
     obtain⟨b1,b2⟩:=uZ (amt:=amt) (ch:=ch) (day:=day) (Or.inr ⟨rfl,rfl,rfl⟩) r.outs uo _ {st with bat:=q,lead:=r.lead,uses:=st.uses++mi} (p+1+ui.length) huo h3
     simp only at b1 b2⊢
     cases hO:usesR s q true r.outs with
     |none=>exact b2 hO
     |some mo=>
      have h4:=qa h3
      refine(b1 mo hO).ends ?_
      have ac:∀(ws:List (Int×Int)) (p:Nat) (t:List In),code.drop p=opI 7 0 0::t->dV code ch day amt (Mst.at {st with bat:=q,lead:=r.lead,uses:=st.uses++mi++mo,works:=ws} p) fun R=>R.1=0/\R.2.lead=r.lead/\R.2.uses=mi++mo/\R.2.works=ws:=by
       intro ws p t hp;refine dV.stop (fK hp).1 (e:=0) fun f=>⟨{st with bat:=q,lead:=r.lead,uses:=st.uses++mi++mo,works:=ws,fuel:=f,next:=p+1},?_,rfl,rfl,?_,rfl⟩
       ·unfold stepI;rw[if_neg (by show ¬(7:Int)=1;decide),if_neg (by show ¬(7:Int)=2;decide),if_neg (by show ¬(7:Int)=3;decide),if_neg (by show ¬(7:Int)=4;decide),if_neg (by show ¬(7:Int)=5;decide),if_neg (by show ¬(7:Int)=6;decide),if_pos (show(opI 7 0 0).op=7 from rfl)];rfl
       ·simp[hu]
      unfold worksR
      cases hr:r.runs with
      |nil=>
       rw[hr]at h4
       have:=ac [] _ _ h4
       simp only[List.isEmpty_nil,if_true]
       have e:(Mst.at {st with bat:=q,lead:=r.lead,uses:=st.uses++mi++mo} (p+1+ui.length+uo.length))=Mst.at {st with bat:=q,lead:=r.lead,uses:=st.uses++mi++mo,works:=[]} (p+1+ui.length+uo.length):=by
        unfold Mst.at;simp only[hw]
       rw[e]
       exact this
      |cons x l=>
       rw[hr]at h4
       simp only[List.isEmpty_cons,Bool.false_eq_true,if_false]
       have ab:(∀k,ceilR q=some k->1099511627776<k)->dV code ch day amt (Mst.at {st with bat:=q,lead:=r.lead,uses:=st.uses++mi++mo} (p+1+ui.length+uo.length)) fun R=>R.1=2:=fun hc=>Mn (st:={st with bat:=q,lead:=r.lead,uses:=st.uses++mi++mo}) hc (x:=x) h4
       cases hk:ceilR q with
       |none=>exact ab (fun k ad=>by rw[hk]at ad;cases ad)
       |some k=>
        simp only
        by_cases ag:1099511627776<k
        ·rw[if_pos ag];exact ab (fun k' ad=>by rw[hk]at ad;cases ad;exact ag)
        ·rw[if_neg ag]
         have hR:=Bl (code:=code) (ch:=ch) (day:=day) (amt:=amt) (st:={st with bat:=q,lead:=r.lead,uses:=st.uses++mi++mo}) hk ag (x::l) [] _ _ h4
         have h5:=qa h4
         rw[show(dU (x::l)).length=(x::l).length by simp[dU]]at h5
         have h6:=ac ([]++(x::l).map fun x=>(x.machNo,x.slots*(k:Int))) _ _ h5
         rw[M9]at h6 hR
         have e:(Mst.at {st with bat:=q,lead:=r.lead,uses:=st.uses++mi++mo} (p+1+ui.length+uo.length))=Mst.at {st with bat:=q,lead:=r.lead,uses:=st.uses++mi++mo,works:=[]} (p+1+ui.length+uo.length):=by
          unfold Mst.at;simp only[hw]
         rw[e]
         exact hR.ends h6
  next=>cases hb
 next=>cases hb
def Bn{s}{item plant:Int}{r}:∀(l:List RecR)(k n:Nat) (c ab:List In) (p:Nat) (st:Mst),codeFrom s item plant l k=some c->l[n]? = some r->dS item plant day ch r=true->(∀q∈l,∀x∈q.ifs,0<=x.optNo)->(∀j q,j<n->l[j]? = some q->dS item plant day ch q=false)->code.drop p=c++ab->∃b t p',bodyR s (k+n) r=some b/\bJ code ch day amt (st.at p) (st.at p')/\code.drop p'=b++t
 |[],_,n,_,_,_,_,_,hn,_,_,_,_=>by simp at hn
 |q::l,k,n,c,ab,p,st,hc,hn,ha,hi,hj,h=>by
  have ad:∀x∈q.ifs,0<=x.optNo:=hi q (by simp);simp only[codeFrom]at hc
  cases n with
  |zero=>
   simp only[Oj,Option.some.injEq]at hn
   subst hn
   simp only[dS,Ob,decide_eq_true_eq]at ha
   obtain⟨a1,a2,a3,a4,a5⟩:=ha
   rw[if_pos ⟨a1,a2⟩]at hc
   split at hc
   next b hb=>
    split at hc
    next c2 hc2=>
     cases hc
     rw[OL]at h
     obtain⟨h3,h4⟩:=yw (ch:=ch) (day:=day) (amt:=amt) (s:=st) (ct q) p (yz q) ((yA q ad).2 ⟨a3,a4,a5⟩) h
     exact⟨b,_,_,hb,h3,h4⟩
    next=>cases hc
   next=>cases hc
  |succ n=>
   rw[Ok]at hn
   have hq:=hj 0 q (by omega) rfl
   have ac:=fun(c2:List In)(p2:Nat) (h2:codeFrom s item plant l (k+1)=some c2) (h3:code.drop p2=c2++ab)=>Bn (s:=s) (item:=item) (plant:=plant) (r:=r) l (k+1) n c2 ab p2 st h2 hn ha (fun q hq=>hi q (by simp[hq])) (fun j q al hq=>hj (j+1) q (by omega) (by rw[Ok];exact hq)) h3
   split at hc
   next hip=>
    split at hc
    next b hb=>
     split at hc
     next c2 hc2=>
      cases hc
      have ag:¬(∀t∈ct q,cg ch day t=true):=by
       rw[yA q ad];rintro⟨h1,h2,h3⟩;simp[dS,hip.1,hip.2,h1,h2,h3]at hq
      have h':=h
      rw[OL]at h'
      have h3:=yx (ch:=ch) (day:=day) (amt:=amt) (s:=st) (ct q) p (yz q) ag h'
      obtain⟨b',t,p',e1,e2,e3⟩:=ac c2 _ hc2 (qa h')
      exact⟨b',t,p',by rw[show k+(n+1)=k+1+n by omega];exact e1,h3.trans e2,e3⟩
     next=>cases hc
    next=>cases hc
   next hip=>
    obtain⟨b',t,p',e1,e2,e3⟩:=ac c p hc h
    exact⟨b',t,p',by rw[show k+(n+1)=k+1+n by omega];exact e1,e2,e3⟩
end
def Mp{s}{no:Nat}{r}{b:List In}(h:bodyR s no r=some b):∃g,goodR s r=some g:=by
 unfold bodyR at h;split at h
 next g hg=>exact⟨g,hg⟩
 next=>cases h
def Mq{s}{item plant day:Int}{ch:List Int}{code:List In}{k:Nat}{amt}(hc:codeR s item plant=some code)(hi:∀q∈s.recs,∀x∈q.ifs,0<=x.optNo)(hw:bV s item plant day ch=[k]) :∃r g b,s.recs[k]? = some r/\goodR s r=some g/\bodyR s k r=some b/\r.itemNo=item/\r.plantNo=plant/\∀n f,code.length<=n->code.length<=f->kT s r g amt (dt code ch day amt n (bL f)):=by
 have hm:k∈bV s item plant day ch:=by rw[hw];simp
 have ac:=hm;unfold bV at ac;rw[List.mem_filter]at ac;obtain⟨hk,ha⟩:=ac;rw[OH]at hk;rw[Nx hk]at ha;obtain⟨r,hr⟩:∃r,s.recs[k]? = some r:=⟨_,Nx hk⟩
 have ag:s.recs[k]=r:=by rw[Nx hk]at hr;exact Option.some.inj hr
 simp only[ag]at ha;have hj:∀j q,j<k->s.recs[j]? = some q->dS item plant day ch q=false:=by
  intro j q al hq
  cases hx:dS item plant day ch q with
  |false=>rfl
  |true=>
   have:j∈bV s item plant day ch:=by
    unfold bV;rw[List.mem_filter,OH];exact⟨(NQ.1 hq).1,by rw[hq];exact hx⟩
   rw[hw]at this
   simp at this
   omega
 unfold codeR at hc;have ad:∀c ab,codeFrom s item plant s.recs 0=some c->code=c++ab->∃r g b,s.recs[k]? = some r/\goodR s r=some g/\bodyR s k r=some b/\r.itemNo=item/\r.plantNo=plant/\∀n f,code.length<=n->code.length<=f->kT s r g amt (dt code ch day amt n (bL f)):=by
  intro c ab h1 h2;obtain⟨b,t,p',e1,e2,e3⟩:=Bn (code:=code) (ch:=ch) (day:=day) (amt:=amt) (s:=s) s.recs 0 k c ab 0 (bL 0) h1 hr ha hi hj (by rw[h2];rfl);rw[Nm]at e1;obtain⟨g,hg⟩:=Mp e1;simp only[dS,Ob,decide_eq_true_eq]at ha;refine⟨r,g,b,hr,hg,e1,ha.1,ha.2.1,fun n f hn hf=>?_⟩;have:=e2.ends (Mo (st:=bL 0) hg e1 e3 rfl rfl);exact this n f (by show _<=n+0;omega) (by show _<=f+0;omega)
 split at hc
 next h0=>
  cases hc;exact ad [] [] h0 rfl
 next x c h0=>
  cases hc;exact ad (x::c) [opI 8 0 0] h0 rfl
 next=>cases hc
def Bo{s}{item plant:Int}:∀(l:List RecR)(k:Nat),(∀r∈l,¬(r.itemNo=item/\r.plantNo=plant))->codeFrom s item plant l k=some []
 |[],_,_=>rfl
 |r::l,k,h=>by
  rw[codeFrom,if_neg (h r (by simp))];exact Bo l (k+1) fun q hq=>h q (by simp[hq])
end Go.Proofs.YtgbbhcbkldhjiaaGreatDoor
