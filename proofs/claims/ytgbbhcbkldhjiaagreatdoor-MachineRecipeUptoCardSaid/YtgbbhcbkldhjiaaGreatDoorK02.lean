import Derived.Test.YtgbbhcbkldhjiaaGreatDoorK01
import Derived.Great.BuildSlice
import Derived.Maps.RangeRun
set_option linter.all false
set_option maxRecDepth 100000
set_option maxHeartbeats 16000000
namespace Go.Proofs.YtgbbhcbkldhjiaaGreatDoor
open Go.Proofs.Tryz Go.RowKit Bf
section
open Go Go.RowKit
abbrev Oc:=@List.mem_of_getElem?
abbrev Od:=@List.all_eq_true
abbrev Oe:=@List.length_append
abbrev Of:=@List.mem_append
abbrev Og:=@List.mem_cons
abbrev Oh:=@List.not_mem_nil
abbrev Ol:=@List.take_succ_cons
abbrev Om:=@Bool.and_assoc
abbrev On:=@List.getElem?_set_self
abbrev Oo:=@List.getElem?_set_ne
abbrev Oq:=@List.getD_eq_getElem?_getD
abbrev Ot:=@Option.getD_some
abbrev Ou:=@List.getElem?_map
abbrev Ow:=@Array.getD_eq_getD_getElem?
abbrev Oy:=@List.set_append_right
abbrev Oz:=@List.append_nil
abbrev OB:=@List.set_cons_zero
abbrev OC:=@List.set_cons_succ
abbrev OD:=@Array.getElem?_setIfInBounds_ne
abbrev OF:=@List.findIdx?_eq_some_iff_getElem
abbrev OG:=@List.getElem_mem
abbrev OH:=@List.mem_range
abbrev OK:=@List.take_length
end
def aa(w:World)(B:Nat)(T:TypeId)(k:Nat)(v:Value)(L:List (List Value)):Prop:=w.ownsRow B T k v L.length L.flatten/\∀c∈L,c.length=k
section
variable {w w':World} {B k:Nat} {T:TypeId} {v:Value} {L:List (List Value)}
def aa.none_(w)(B:Nat)(T)(k:Nat):aa w B T k (.slice none 0 0) []:=⟨⟨by simp,.inl ⟨rfl,rfl⟩⟩,by simp⟩
def j7(L:List (List Value))(k:Nat)(hk:∀c∈L,c.length=k)(i j:Nat)(c)(hi:L[i]? = some c)(hj:j<k):L.flatten[i*k+j]? = c[j]?:=by
 induction L generalizing i with
 |nil=>simp at hi
 |cons a L ih=>
  have ha:=hk a (by simp)
  cases i with
  |zero=>
   have:a=c:=by simpa using hi
   subst this
   rw[List.flatten_cons,Nat.zero_mul,Nm,N4 (by omega)]
  |succ i=>
   rw[List.flatten_cons,N5 (by rw[ha,Nat.succ_mul];omega),ha,show(i+1)*k+j-k=i*k+j from by rw[Nat.succ_mul];omega]
   exact ih (fun c hc=>hk c (by simp[hc])) i (by simpa using hi)
def aa.row(h:aa w B T k v L):RowC w k v L:=by
 rcases h.1.2 with⟨rfl,h0⟩|⟨g,cap,cur,rfl,h1,h2,h3,h4,h5,h6⟩
 ·have:L=[]:=List.length_eq_zero_iff.1 h0;subst this;exact RowC.nil w k none 0
 ·refine⟨_,cap,rfl,h3,fun i cs hi=>⟨g,0,rfl,(NX.1 h2).1,fun j x hx=>?_⟩⟩;have hl:=h.2 cs (Oc hi);have hj:j<k:=by rw[<-hl];exact(NQ.1 hx).1
  have ab:i<L.length:=(NQ.1 hi).1;have e:(cur.toList.take (L.length*k))[i*k+j]? = some x:=by rw[h6,j7 L k h.2 i j cs hi hj];exact hx
  rw[NR,if_pos (by have:=Nd k (show i+1<=L.length by omega);rw[Nat.succ_mul]at this;omega)]at e;rw[Nm];simp only[World.cell?,h2];simpa using e
def aa.of_block(h:aa w B T k v L)(hb:∀g,v.ownBlock=some g->w'.heap[g]? = w.heap[g]?):aa w' B T k v L:=⟨DS h.1 hb,h.2⟩
def aa.lt(h:aa w B T k v L){g:Nat}(hg:v.ownBlock=some g):g<w.heap.size:=DT h.1 hg
def aa.ge(h:aa w B T k v L){g:Nat}(hg:v.ownBlock=some g):B<=g:=(h.1.lt g hg).1
def aa.below{D:Nat}(h:aa w B T k v L)(hb:Below D w w')(hD:w.heap.size<=D):aa w' B T k v L:=h.of_block fun g hg=>hb.block g (Nf (h.lt hg) hD)
def aa.alloc(h:aa w B T k v L)(o:Obj):aa (w.alloc o) B T k v L:=h.of_block fun _ hg=>NT _ _ _ (h.lt hg)
def aa.drew(h:aa w B T k v L):aa w.drew B T k v L:=h
def aa.slice(h:aa w B T k v L):∃A c,v=.slice A L.length c:=DU h.1
def aa.less{B':Nat}(h:aa w B' T k v L)(hB:B<=B'):aa w B T k v L:=by
 refine⟨⟨h.1.1,?_⟩,h.2⟩;rcases h.1.2 with h0|⟨g,cap,cur,rfl,h1,h2⟩
 ·exact .inl h0
 ·exact .inr ⟨g,cap,cur,rfl,Nv hB h1,h2⟩
def aa.ne_blk{b:Nat}{t}{l}(h:aa w B T k v L)(hb:Blk w b l t)(ab:t≠T):∀g,v.ownBlock=some g->g≠b:=by
 intro g hg hk;rcases h.1.2 with⟨rfl,_⟩|⟨g',cap,cur,rfl,h1,h2,_⟩
 ·cases hg
 ·have e1:g'=g:=Option.some.inj hg;subst e1;subst hk;unfold Blk at hb;rw[hb]at h2;injection h2 with h2;injection h2 with _ h2;exact ab h2
def aa.set{b i:Nat}{t}{l}(h:aa w B T k v L)(hb:Blk w b l t)(ab:t≠T)(u):aa (w.setCell ⟨b,i,none⟩ u) B T k v L:=
 h.of_block fun g hg=>NF _ _ _ _ (h.ne_blk hb ab g hg)
def Blk.ownG{b:Nat}{t}{l}(hb:Blk w b l t)(h:aa w B T k v L)(ab:t≠T)(hg:w.grownBy w' v.ownBlock):Blk w' b l t:=
 hb.grown hg (fun e=>h.ne_blk hb ab b e.symm rfl)
def j8{w0}{D:Nat}(hb:Below D w0 w)(h:aa w B T k v L)(hg:w.grownBy w' v.ownBlock)(hB:D<=B)(hs:D<=w.heap.size):Below D w0 w':=
 hb.grown hg hs (fun _ e=>Nv hB (h.ge e))
def aa.ownG{B' k':Nat}{T'}{v'}{L':List (List Value)}(h':aa w B' T' k' v' L')(h:aa w B T k v L)(ag:T'≠T)(hg:w.grownBy w' v.ownBlock):aa w' B' T' k' v' L':=
 h'.of_block fun g hg'=>hg.block g (h'.lt hg') (fun e=>by
  rcases h.1.2 with⟨rfl,_⟩|⟨g1,cap,cur,rfl,h1,h2,_⟩
  ·cases e
  ·have e1:g=g1:=Option.some.inj e;subst e1;rcases h'.1.2 with⟨rfl,_⟩|⟨g2,ac,ad,rfl,al,ab,_⟩
   ·cases hg'
   ·have e2:g2=g:=Option.some.inj hg';subst e2;rw[h2]at ab;injection ab with ab;injection ab with _ ab;exact ag ab.symm)
end
def bE(P:Program)(t e:TypeId)(k bytes:Nat):Prop:=∃i z,P.underlying t=some (.slice e)/\P.info? e=some i/\i.zero=some z/\i.size=k/\i.bytes=bytes/\z.cells.size=k/\0<k/\bytes<=1024
def bE.mk'{P:Program}{t e}{k bytes:Nat}{z}(ht:P.underlying t=some (.slice e))(h:(P.info? e).map (fun i=>(i.zero,i.size,i.bytes))=some (some z,k,bytes))(hz:(Nat.beq z.cells.size k&&(Nat.blt 0 k&&Nat.ble bytes 1024))=true):bE P t e k bytes:=by
 obtain⟨i,hi,h0,h1,h2⟩:=info_parts h;simp only[Ob,Nat.blt_eq,Nat.ble_eq]at hz;exact⟨i,z,ht,hi,h0,h1,h2,Nat.eq_of_beq_eq_true hz.1,hz.2.1,hz.2.2⟩
def DV{P}{o:Oper}{a:Act}{w}{K:Act->World->Prop}{Q:Exit->Act->World->Prop}{t e}{k bytes:Nat}(hI:bE P t e k bytes)(s x)(ho:o.op=.call {callee:= .builtin .append,args:=#[s,x],argTypes:=#[t,t]})(B:Nat)(v)(L:List (List Value))(hs:a.eval s=v)(ac:aa w B e k v L)(g c:Nat)(xc)(T)(hx:a.eval x=.slice g 1 c)(hb:Blk w g xc T)(hl:xc.length=k)(h1:(xc.all fun u=>u.oneCell')=true)(ao:L.length<=16777216)(ab:B<=w.heap.size)(h:∀v' w',aa w' B e k v' (L++[xc])->w.grownBy w' v.ownBlock->K (a.put o.dst v') w'):o.wp P a w K Q:=by
 obtain⟨i,z,ht,hi,hz,ad,an,ar,hk,ag⟩:=hI;have al:(L.length+1)*bytes<=140737488355328:=Nv (Nat.mul_le_mul (show L.length+1<=16777217 by omega) ag) (by omega);refine jY w s x t ho B e i z k bytes ht hi hz ad an ar hk v L.length L.flatten hs ac.1 (g+1) (some ⟨g,0,none⟩) 1 c xc hx (pd hb (by omega)) (fun u hu=>Od.1 h1 u hu) (by unfold maxLen;omega) al ab (fun v' w' h2 h3 _=>h v' w' ⟨?_,?_⟩ h3)
 ·rw[Oe,List.flatten_append];simpa using h2
 ·intro c hc;rcases Of.1 hc with hc|hc
  ·exact ac.2 c hc
  ·simp only[Og,Oh,or_false]at hc;subst hc;exact hl
def pg{P}{ops}{rest}{o:Oper}{a:Act}{w}{Q}{t e}{k bytes:Nat}(hI:bE P t e k bytes)(ag:o.guard=none)(s x)(ho:o.op=.call {callee:= .builtin .append,args:=#[s,x],argTypes:=#[t,t]})(B:Nat)(v)(L:List (List Value))(hs:a.eval s=v)(ad:aa w B e k v L)(g c:Nat)(xc)(T)(hx:a.eval x=.slice g 1 c)(hb:Blk w g xc T)(hl:xc.length=k)(h1:(xc.all fun u=>u.oneCell')=true)(ac:L.length<=16777216)(ab:B<=w.heap.size)(h:∀v' w',aa w' B e k v' (L++[xc])->w.grownBy w' v.ownBlock->wpList P ops Q rest (a.put o.dst v') w'):wpList P ops Q (o::rest) a w:=
 wpList_plain ag fun _ hK=>DV hI s x ho B v L hs ad g c xc T hx hb hl h1 ac ab fun v' w' h2 h3=>hK _ _ (h v' w' h2 h3)
def RowC.of_blk{w}{b k n:Nat}{cells}{T}(hb:Blk w b cells T)(L:List (List Value))(he:cells=L.flatten)(hk:∀c∈L,c.length=k)(hn:n=L.length)(c:Nat)(hc:n<=c):RowC w k (.slice b n c) L:=by
 subst hn;refine⟨_,_,rfl,hc,fun i cs hi=>⟨b,0,rfl,hb.lt,fun j x hx=>?_⟩⟩;have hj:j<k:=by rw[<-hk cs (Oc hi)];exact(NQ.1 hx).1
 rw[Nm];exact(hb.at _ _ (by rw[he,j7 L k hk i j cs hi hj];exact hx)).1
def RowC.take{w}{k n c:Nat}{A}{L:List (List Value)}(h:RowC w k (.slice A n c) L)(m:Nat)(hm:m<=n):RowC w k (.slice A m c) (L.take m):=by
 obtain⟨A',cap,e,hc,h⟩:=h
 cases e;refine⟨_,_,by rw[Nz,Nat.min_eq_left hm],by rw[Nz];omega,fun i cs hi=>h i cs ?_⟩;rw[NR]at hi;split at hi
 ·exact hi
 ·cases hi
def j9(k:Int):List PanicEntry:=[{v:= .iface 133 (.agg #[.int .i64 k]),recovered:=false}]
def stC(cv:Value)(day:Int)(amt:Rt)(bat:Rt)(next fuel lead:Int)(uv wv:Value):List Value:=
 [cv,.int .i64 day,.bool amt.neg,.string (bs amt.n),.string (bs amt.d),.bool bat.neg,.string (bs bat.n),.string (bs bat.d),.int .i64 next,.int .i64 fuel,.int .i64 lead,uv,wv]
def eO(u:d9):List Value:=[.int .i64 u.item,.bool u.amt.neg,.string (bs u.amt.n),.string (bs u.amt.d),.bool u.out,.bool u.back]
def fY(u:Int×Int):List Value:=[.int .i64 u.1,.int .i64 u.2]
def au(x:In):List Value:=[.int .i64 x.op,.int .i64 x.A,.int .i64 x.B,.bool x.neg,.string x.n,.string x.d]
def af(x:Int):List Value:=[.int .i64 x]
noncomputable def cG(l:List In)(c:List Int)(neg:Bool)(n d:ByteArray)(fuel:Int):Int×Mst:=
 open Classical in
 if ¬eN l then(171,bL 0)else if ¬bN neg n d then(70,bL 0)else if neg=true\/c=[]\/fuel<0 then(1,bL 0)
 else dt l c.dropLast (c.getLast?.getD 0) ⟨neg,bv n,bv d⟩ l.length (bL fuel.toNat)
def DW(w:World)(R:Int×Mst)(e:Ending)(w':World):Prop:=
 eB w w'/\((R.1=0/\∃uv wv,e=.returned (.tuple #[uv,wv,.int .i64 R.2.lead,.int .i64 (R.2.fuel:Int),.int .i64 0])/\aa w' w.heap.size 65 6 uv (R.2.uses.map eO)/\aa w' w.heap.size 69 2 wv (R.2.works.map fY))\/
  (R.1≠0/\e=.returned (.tuple #[.slice none 0 0,.slice none 0 0,.int .i64 0,.int .i64 0,.int .i64 R.1])))
def DX{l:List In}(h:¬eN l)(c:List Int)(neg:Bool)(n d)(fuel:Int):cG l c neg n d fuel=(171,bL 0):=by unfold cG;rw[if_pos h]
def DY{l:List In}(h:eN l)(c:List Int){neg:Bool}{n d}(h':¬bN neg n d)(fuel:Int):cG l c neg n d fuel=(70,bL 0):=by unfold cG;rw[if_neg (by simpa using h),if_pos h']
def pj{l:List In}(h:eN l){c:List Int}{neg:Bool}{n d}(h':bN neg n d){fuel:Int}(h2:neg=true\/c=[]\/fuel<0):cG l c neg n d fuel=(1,bL 0):=by unfold cG;rw[if_neg (by simpa using h),if_neg (by simpa using h'),if_pos h2]
def jt{l:List In}(h:eN l){c:List Int}{neg:Bool}{n d}(h':bN neg n d){fuel:Int}(h2:¬(neg=true\/c=[]\/fuel<0)):cG l c neg n d fuel=dt l c.dropLast (c.getLast?.getD 0) ⟨neg,bv n,bv d⟩ l.length (bL fuel.toNat):=by unfold cG;rw[if_neg (by simpa using h),if_neg (by simpa using h'),if_neg h2]
def ka(code:List In)(ch:List Int)(day:Int)(amt)(g:Nat)(s:Mst):dt code ch day amt (g+1) s=if s.fuel=0 then(170,s)else match code[s.next]? with
 |none=>(170,s)
 |some x=>match stepI ch day amt x {s with fuel:=s.fuel-1,next:=s.next+1}with
  |.go s'=>dt code ch day amt g s'
  |.stop e s'=>(e,s'):=rfl
def vld_op{x:In}{after:Int}(h:bD x after=true):1<=x.op/\x.op<=8:=by
 unfold bD at h;by_cases h':1<=x.op/\x.op<=8
 ·exact h'
 ·rw[if_neg (by omega),if_neg (by omega),if_neg (by omega),if_neg (by omega),if_neg (by omega),if_neg (by omega),if_neg (by omega),if_neg (by omega)]at h
  cases h
def op_cases{k:Int}(h:1<=k/\k<=8):k=1\/k=2\/k=3\/k=4\/k=5\/k=6\/k=7\/k=8:=by omega
def pm{neg:Bool}{n d}(h:alz neg n d=true):∃r:Rt,r.ok/\r.neg=false/\neg=false/\bs r.n=n/\bs r.d=d/\r=⟨neg,bv n,bv d⟩:=by
 obtain⟨h1,rfl⟩:=rY.1 h;exact⟨⟨false,bv n,bv d⟩,⟨oZ h1.1,oZ h1.2.1,by have:=h1.2.2.1;show 0<bv d;omega,h1.2.2.2.1,h1.2.2.2.2⟩,rfl,rfl,mQ h1.1.1,mQ h1.2.1.1,rfl⟩
def wC{a r q}(h:divR a r=some q)(ha:a.ok)(ab:r.n≠0):q.ok:=fB h ha.2.2.1 (by show 0<r.n;omega)
def DZ{l:List In}{ch:List Int}{day:Int}{amt:Rt}{x:In}{s s':Mst}{i:Nat}(hl:eN l)(hx:l[i]? = some x)(hn:s.next=i+1)(hb:s.bat.ok)(ab:s.bat.neg=false)(ha:amt.ok)(ad:amt.neg=false)(h:stepI ch day amt x s=.go s') :s'.next<l.length/\i<s'.next/\s'.bat.ok/\s'.bat.neg=false/\s'.fuel=s.fuel/\(s'.uses.length<=s.uses.length+1)/\(s'.works.length<=s.works.length+1):=by
 have hi:i<l.length:=(NQ.1 hx).1;have hv:=hl.2.2.1 i x hx;have ac:x.op≠7->x.op≠8->i+1<l.length:=fun h7 h8=>by
  rcases Nh (i+1) l.length with h|h
  ·exact h
  ·have e:l.length-1=i:=by omega
   rcases hl.2.2.2 x (by rw[e];exact hx)with h'|h' <;> contradiction
 obtain⟨op,A,B,neg,n,d⟩:=x;have key:∀b:Rt,b.ok->b.neg=false->op≠7->op≠8->∀t:Mst,t.next=s.next->t.bat=b->t.fuel=s.fuel->t.uses.length<=s.uses.length+1->t.works.length<=s.works.length+1->t.next<l.length/\i<t.next/\t.bat.ok/\t.bat.neg=false/\t.fuel=s.fuel/\(t.uses.length<=s.uses.length+1)/\(t.works.length<=s.works.length+1):=
  fun b h1 h2 h7 h8 t e1 e2 e3 e4 e5=>by have:=ac h7 h8;rw[e1,e2];exact⟨by omega,by omega,h1,h2,e3,e4,e5⟩
 rcases op_cases (vld_op hv)with h'|h'|h'|h'|h'|h'|h'|h' <;> (simp only at h';subst h';simp only[stepI]at h)
 ·have h2:(2:Int)<=(l.length:Int)-1-i:=by simp[bD]at hv;omega
  cases h;refine⟨?_,?_,hb,ab,rfl,by simp,by simp⟩ <;> simp only <;> split <;> omega
 ·have h2:0<=A/\A<(l.length:Int)-1-i:=by simp[bD]at hv;exact hv
  cases h;refine⟨?_,?_,hb,ab,rfl,by simp,by simp⟩ <;> simp only <;> omega
 ·have hA:alz neg n d=true/\n.toList.isEmpty=false:=by simp[bD]at hv;exact⟨hv.1.1.1,by simpa using hv.1.1.2⟩
  obtain⟨r,hr,al,rfl,rfl,rfl,ag⟩:=pm hA.1;have h0:r.n≠0:=fun e=>by have:=hA.2;rw[iN,e]at this;simp at this
  simp only[In.rt,<-ag]at h
  cases hq:divR amt r <;> simp[hq]at h;subst h;exact key _ (wC hq ha h0) (mT hq ad al) (by decide) (by decide) _ rfl rfl rfl (by simp) (by simp)
 ·cases hq:mulR (In.rt ⟨4,A,B,neg,n,d⟩) s.bat <;> simp[hq]at h;subst h;exact key _ hb ab (by decide) (by decide) _ rfl rfl rfl (by simp) (by simp)
 ·cases hq:mulR (In.rt ⟨5,A,B,neg,n,d⟩) s.bat <;> simp[hq]at h;subst h;exact key _ hb ab (by decide) (by decide) _ rfl rfl rfl (by simp) (by simp)
 ·cases hq:ceilR s.bat <;> simp[hq]at h;split at h <;> cases h;exact key _ hb ab (by decide) (by decide) _ rfl rfl rfl (by simp) (by simp)
 ·cases h
 ·cases h
def aV{α:Type}(f:α->α->Bool):List α->List α->Bool
 |[],[]=>true
 |x::a,y::b=>f x y&&aV f a b
 |_,_=>false
def mW{α:Type}{f:α->α->Bool}:∀{a b:List α},a.length≠b.length->aV f a b=false
 |[],[],h=>absurd rfl h
 |x::a,y::b,h=>by
  rw[aV,mW (fun e=>h (by simp[e])),Bool.and_false]
 |[],_::_,_=>rfl
 |_::_,[],_=>rfl
def mX{α:Type}{f:α->α->Bool}:∀{a b:List α} {k:Nat} {x y:α},a[k]? = some x->b[k]? = some y->aV f (a.take (k+1)) (b.take (k+1))=(aV f (a.take k) (b.take k)&&f x y)
 |x'::a,y'::b,0,x,y,hx,hy=>by
  simp only[Oj,Option.some.injEq]at hx hy;subst hx hy;simp[aV]
 |x'::a,y'::b,k+1,x,y,hx,hy=>by
  simp only[Ok]at hx hy;rw[Ol,Ol,Ol,Ol,aV,aV,mX hx hy,Om]
 |[],_,_,_,_,hx,_=>by simp at hx
 |_::_,[],_,_,_,_,hy=>by simp at hy
def mY{α:Type}{f:α->α->Bool}:∀{a b:List α} {k:Nat} {x y:α},a[k]? = some x->b[k]? = some y->f x y=false->aV f a b=false
 |x'::a,y'::b,0,x,y,hx,hy,h=>by
  simp only[Oj,Option.some.injEq]at hx hy;subst hx hy;rw[aV,h,Bool.false_and]
 |x'::a,y'::b,k+1,x,y,hx,hy,h=>by
  simp only[Ok]at hx hy;rw[aV,mY hx hy h,Bool.and_false]
 |[],_,_,_,_,hx,_,_=>by simp at hx
 |_::_,[],_,_,_,_,hy,_=>by simp at hy
def D5{P}{ops}{rest}{o1 o2 o3:Oper}{a:Act}{w:World}{Q}(T)(n:Nat)(hT:bW P T n=true)(g1:o1.guard=none)(g2:o2.guard=none)(g3:o3.guard=none)(x y z)(h1:o1.op=.alloc T)(h2:o2.op=.assign z)(h3:o3.op=.store T x y)(N:Nat)(hN:w.heap.size=N)(v)(hz:(a.put o1.dst (.pointer N)).eval z=v)(hx:((a.put o1.dst (.pointer N)).put o2.dst v).eval x=.pointer N)(cs:List Value)(hy:((a.put o1.dst (.pointer N)).put o2.dst v).eval y=.agg cs.toArray)(hn:cs.length=n)(hc:(cs.all fun v=>v.oneCell')=true)(h:wpList P ops Q rest (((a.put o1.dst (.pointer N)).put o2.dst v).put o3.dst undef) (w.alloc (.cells cs.toArray T))):wpList P ops Q (o1::o2::o3::rest) a w:=by
 subst hN;obtain⟨i,zz,hi,hs,an,al⟩:=pq hT;refine wpList_plain g1 fun K hK=>?_;have e1:(execOp a.eval o1).run P w=.ok (.value (.pointer w.heap.size)) (w.alloc (.cells zz.cells T)):=by
  unfold execOp;simp only[h1];simp[Instr.alloc,zeroValue,typeInfo,hi,an,newVar,go_sem]
 unfold Oper.wp;rw[e1,Oper.upon_value];refine hK _ _ ?_;refine wpList_plain g2 fun K2 ad=>?_;have e3:(execOp (a.put o1.dst (.pointer w.heap.size)).eval o2).run P (w.alloc (.cells zz.cells T))=.ok (.value v) (w.alloc (.cells zz.cells T)):=by
  unfold execOp;simp only[h2,hz,NN]
 unfold Oper.wp;rw[e3,Oper.upon_value];refine ad _ _ ?_;refine wpList_plain g3 fun K' ac=>?_;have ab:(cs.toArray).size=n:=by simpa using hn
 have ag:=run_storeAt_new (P:=P) w T zz.cells cs.toArray (by rw[eQ hT,ab]) (by rw[al,ab]) (by simpa using hc);have e2:(execOp ((a.put o1.dst (.pointer w.heap.size)).put o2.dst v).eval o3).run P (w.alloc (.cells zz.cells T))=.ok .skip (w.alloc (.cells cs.toArray T)):=by
  unfold execOp;simp only[h3,hx,hy,NM,ag,NO,NN]
 unfold Oper.wp;rw[e2,Oper.upon_skip];exact ac _ _ h
def wA{P}{ops}{rest}{o1 o2 o3:Oper}{a:Act}{w:World}{Q}{T}{n N:Nat}{x y z:Operand}{cs:List Value}(hN:w.heap.size=N)(v)(hc:(cs.all fun v=>v.oneCell')=true)(h:wpList P ops Q rest (((a.put o1.dst (.pointer N)).put o2.dst v).put o3.dst undef) (w.alloc (.cells cs.toArray T)))(h1:o1.op=.alloc T:=by rfl)(h2:o2.op=.assign z:=by rfl)(h3:o3.op=.store T x y:=by rfl)(hz:(a.put o1.dst (.pointer N)).eval z=v:=by rfl)(hx:((a.put o1.dst (.pointer N)).put o2.dst v).eval x=.pointer N:=by rfl)(hy:((a.put o1.dst (.pointer N)).put o2.dst v).eval y=.agg cs.toArray:=by rfl)(hn:cs.length=n:=by rfl)(g1:o1.guard=none:=by rfl)(g2:o2.guard=none:=by rfl)(g3:o3.guard=none:=by rfl)(hT:bW P T n=true:=by kernel_rfl):wpList P ops Q (o1::o2::o3::rest) a w:=D5 T n hT g1 g2 g3 x y z h1 h2 h3 N hN v hz hx cs hy hn hc h
def D6{w}{b:Nat}{old cs:List Value}{t}(h:Blk w b old t):Blk (w.setRow b cs.toArray) b cs t:=setRow_heap w b old.toArray cs.toArray t (0,0) h
def D8(w:World)(b:Nat)(cs):w.grownBy (w.setRow b cs) (some b):=⟨rfl,rfl,rfl,by simp,fun k _ ab=>setRow_other w b k cs (fun e=>ab (by rw[e]))⟩
def eT{P}{ops}{rest}{op:Oper}{a:Act}{w}{Q}(T)(n:Nat)(hT:bW P T n=true)(ab:op.guard=none)(x y)(ho:op.op=.store T x y)(hd:op.dst=none)(b:Nat)(hx:a.eval x=.pointer b)(cs:List Value)(hy:a.eval y=.agg cs.toArray)(old)(t)(hB:Blk w b old t)(ac:old.length=n)(hn:cs.length=n)(hc:(cs.all fun v=>v.oneCell')=true)(h:∀w',Blk w' b cs t->w.grownBy w' (some b)->wpList P ops Q rest a w'):wpList P ops Q (op::rest) a w:=
 wpList_store_rowTo ab T x y ho hd b cs.toArray hx hy t old.toArray hB (by rw[eQ hT];simpa using hn.symm) (by simp[ac,hn]) (by simpa using hc) (h _ (D6 hB) (D8 _ _ _))
def D9{P}{l rest:List Oper}{Q}{S:World->Prop}{i:Nat}{is:List Nat}{o:Oper}{a:Act}{w}(T)(n:Nat)(hT:bW P T n=true)(hi:Nat.blt i 1000=true)(hl:l.drop i=o::rest)(hw:Region.wanted o (yielded l.toArray a.tmps)=true)(x)(ho:o.op=.load T x)(b off:Nat)(hx:a.eval x=.pointer (some ⟨b,off,none⟩))(cs:List Value)(hn:cs.length=n)(hS:∀w,S w->w.rangeAt b off cs)(h:aE P l.toArray Q S is (a.put o.dst (.agg cs.toArray)) w):aE P l.toArray Q S (i::is) a w:=by
 obtain⟨d,hu,hd⟩:=jw hT;refine mV (v:= .agg cs.toArray) hi hl hw (fun w ab=>?_) h;unfold execOp;simp only[ho,hx,NM,run_loadAt_mid w b off T cs d (hS w ab) hu hd (by rw[eQ hT,hn]),NO,NN]
def sR{P}{l rest:List Oper}{Q}{S:World->Prop}{i b off n:Nat}{is:List Nat}{o:Oper}{a a':Act}{w}{x:Operand}{cs}(T)(hS:∀w,S w->w.rangeAt b off cs)(h:aE P l.toArray Q S is a' w)(hi:Nat.blt i 1000=true:=by rfl)(hl:l.drop i=o::rest:=by rfl)(ho:o.op=.load T x:=by rfl)(hx:a.eval x=.pointer (some ⟨b,off,none⟩):=by rfl)(hw:Region.wanted o (yielded l.toArray a.tmps)=true:=by rfl)(hn:cs.length=n:=by rfl)(hT:bW P T n=true:=by kernel_rfl)(e:a.put o.dst (.agg cs.toArray)=a':=by(try simp only[PT]);try rfl):aE P l.toArray Q S (i::is) a w:=by
 subst e;exact D9 T n hT hi hl hw x ho b off hx cs hn hS h
structure Kp(F:Nat->Prop)(W W':World):Prop where
 os:W'.os=W.os
 tape:W'.tape=W.tape
 output:W'.output=W.output
 size:W.heap.size<=W'.heap.size
 block:∀k,F k->W'.heap[k]? = W.heap[k]?
def Kp.of{F:Nat->Prop}{W W'}(h:eB W W')(hF:∀k,F k->k<W.heap.size):Kp F W W':=⟨h.os,h.tape,h.output,h.size,fun k hk=>h.block k (hF k hk)⟩
structure gC where
 rw:Prop
 p:World->(Nat->Prop)->Prop
 loc:∀{W W':World} {F:Nat->Prop},p W F->Kp F W W'->p W' F
 lt:∀{W:World} {F:Nat->Prop},p W F->∀k,F k->k<W.heap.size
def Ea(b:Nat)(c:List Value)(t:TypeId):gC where
 rw:=True
 p W F:=Blk W b c t/\∀k,F k<->k=b
 loc:=fun⟨h1,h2⟩ h=>⟨(h.block b ((h2 b).2 rfl)).trans h1,h2⟩
 lt:=fun⟨h1,h2⟩ k hk=>by rw[(h2 k).1 hk];exact h1.lt
def Eb(w:World):gC where
 rw:=False
 p W F:=eB w W/\∀k,F k<->k<w.heap.size
 loc:=fun⟨h1,h2⟩ h=>⟨⟨h.os.trans h1.os,h.tape.trans h1.tape,h.output.trans h1.output,Nv h1.size h.size,fun k hk=>(h.block k ((h2 k).2 hk)).trans (h1.block k hk)⟩,h2⟩
 lt:=fun⟨h1,h2⟩ k hk=>Nf ((h2 k).1 hk) h1.size
def Ec(v:Value)(T:TypeId)(k:Nat)(L:List (List Value)):gC where
 rw:=True
 p W F:=aa W 0 T k v L/\∀j,F j<->v.ownBlock=some j
 loc:=fun⟨h1,h2⟩ h=>⟨h1.of_block fun g hg=>h.block g ((h2 g).2 hg),h2⟩
 lt:=fun⟨h1,h2⟩ k hk=>h1.lt ((h2 k).1 hk)
def Ed(v:Value)(k:Nat)(L:List (List Value)):gC where
 rw:=False
 p W F:=RowC W k v L/\(∀j,F j->j<W.heap.size)/\∀j,v.ownBlock=some j->L≠[]->F j
 loc:=fun⟨h1,h2,h3⟩ h=>⟨by
  obtain⟨A,cap,rfl,ab,hc⟩:=h1;refine⟨A,cap,rfl,ab,fun i u hu=>?_⟩;obtain⟨b,off,rfl,hl,hx⟩:=hc i u hu;have hF:=h3 b rfl (fun e=>by rw[e]at hu;simp at hu);exact⟨b,off,rfl,Nf hl h.size,fun j x hj=>(NL (a:=⟨b,_,none⟩) (h.block b hF)).trans (hx j x hj)⟩,fun j hj=>Nf (h2 j hj) h.size,h3⟩
 lt:=fun⟨_,h2,_⟩=>h2
inductive Asn where
 |box (b:Nat) (c:List Value) (t:TypeId)
 |old (w:World)
 |row (v:Value) (T:TypeId) (k:Nat) (L:List (List Value))
 |fro (v:Value) (k:Nat) (L:List (List Value))
 |any (x:gC)
def Asn.x:Asn->gC
 |box b c t=>Ea b c t
 |old w=>Eb w
 |row v T k L=>Ec v T k L
 |fro v k L=>Ed v k L
 |any x=>x
def Sep(As:List Asn)(W:World):Prop:=
 ∃F:Nat->Nat->Prop,(∀(i:Nat)(A:Asn),As[i]? = some A->A.x.p W (F i))/\∀(i j:Nat)(A B:Asn),As[i]? = some A->As[j]? = some B->i≠j->A.x.rw->∀k,F i k->¬F j k
section
variable {As Bs:List Asn} {W W' w:World} {b o:Nat} {c cs:List Value} {t:TypeId} {i:Nat} {A:Asn}
def Sep.new(w):Sep [.old w] w:=
 ⟨fun _ k=>k<w.heap.size,fun i A h=>by
  cases i with
  |zero=>cases h;exact⟨NB _ _,fun _=>Iff.rfl⟩
  |succ i=>simp at h,fun i j A B h1 h2 ab=>by
  cases i <;> cases j <;> simp at h1 h2 ab⟩
def Sep.ext(M:Sep As W)(h:eB W W'):Sep As W':=by
 obtain⟨F,h1,h2⟩:=M;exact⟨F,fun i A hA=>A.x.loc (h1 i A hA) (.of h (A.x.lt (h1 i A hA))),h2⟩
def Sep.push(M:Sep As W)(h:eB W W'){G:Nat->Prop}(hA:A.x.p W' G)(hG:∀k,G k->W.heap.size<=k):Sep (A::As) W':=by
 obtain⟨F,h1,h2⟩:=M;refine⟨fun i=>match i with|0=>G|i+1=>F i,fun i B hB=>?_,fun i j B C hB hC ac hr k hk ab=>?_⟩
 ·cases i with
  |zero=>cases hB;exact hA
  |succ i=>exact B.x.loc (h1 i B hB) (.of h (B.x.lt (h1 i B hB)))
 ·cases i with
  |zero=>
   cases j with
   |zero=>exact ac rfl
   |succ j=>exact absurd (C.x.lt (h1 j C hC) k ab) (Nat.not_lt.2 (hG k hk))
  |succ i=>
   cases j with
   |zero=>exact absurd (B.x.lt (h1 i B hB) k hk) (Nat.not_lt.2 (hG k ab))
   |succ j=>exact h2 i j B C hB hC (fun e=>ac (by rw[e])) hr k hk ab
def Sep.upd(M:Sep As W){i:Nat}{A':Asn}(hi:As[i]? = some A)(hr:A.x.rw)(hk:∀F,A.x.p W F->Kp (fun k=>k<W.heap.size/\¬F k) W W'/\∃G,A'.x.p W' G/\∀k,G k->F k\/W.heap.size<=k):Sep (As.set i A') W':=by
 obtain⟨F,h1,h2⟩:=M;obtain⟨ad,G,hG,ao⟩:=hk (F i) (h1 i A hi);have ar:i<As.length:=(NQ.1 hi).1;have ho:∀j B,(As.set i A')[j]? = some B->(j=i/\B=A')\/(j≠i/\As[j]? = some B):=fun j B hB=>by
  by_cases e:j=i
  ·subst e;rw[On ar]at hB;exact .inl ⟨rfl,(Option.some.inj hB).symm⟩
  ·rw[Oo (Ne.symm e)]at hB;exact .inr ⟨e,hB⟩
 refine⟨fun j=>if j=i then G else F j,fun j B hB=>?_,fun j l B C hB hC al av k ac ab=>?_⟩
 ·rcases ho j B hB with⟨rfl,rfl⟩|⟨e,hB⟩
  ·simpa using hG
  ·simp only[if_neg e];exact B.x.loc (h1 j B hB) ⟨ad.os,ad.tape,ad.output,ad.size,fun k hk=>ad.block k ⟨B.x.lt (h1 j B hB) k hk,fun hF=>h2 i j A B hi hB (Ne.symm e) hr k hF hk⟩⟩
 ·rcases ho j B hB with⟨rfl,rfl⟩|⟨e,an⟩
  ·rcases ho l C hC with⟨rfl,rfl⟩|⟨e',ag⟩
   ·exact al rfl
   ·simp only[if_true,if_neg e']at ac ab;rcases ao k ac with h|h
    ·exact h2 j l A C hi ag al hr k h ab
    ·exact absurd (C.x.lt (h1 l C ag) k ab) (Nat.not_lt.2 h)
  ·simp only[if_neg e]at ac;rcases ho l C hC with⟨rfl,rfl⟩|⟨e',ag⟩
   ·simp only[if_true]at ab;rcases ao k ab with h|h
    ·exact h2 l j A B hi an (Ne.symm al) hr k h ac
    ·exact absurd (B.x.lt (h1 j B an) k ac) (Nat.not_lt.2 h)
   ·simp only[if_neg e']at ab;exact h2 j l B C an ag al av k ac ab
def Sep.sub(M:Sep As W)(f:Nat->Nat)(hf:∀i j,i<Bs.length->j<Bs.length->f i=f j->i=j)(h:∀(i:Nat)(A:Asn),Bs[i]? = some A->As[f i]? = some A):Sep Bs W:=by
 obtain⟨F,h1,h2⟩:=M;exact⟨fun i=>F (f i),fun i A hA=>h1 _ A (h i A hA),fun i j A B hA hB ab hr=>h2 _ _ A B (h i A hA) (h j B hB) (fun e=>ab (hf i j (NQ.1 hA).1 (NQ.1 hB).1 e)) hr⟩
def Sep.dr(M:Sep As W)(n:Nat):Sep (As.drop n) W:=
 M.sub (n + ·) (fun i j _ _ h=>by omega) fun i A h=>by rwa[List.getElem?_drop]at h
def Sep.pk(M:Sep As W)(ix:List Nat)(hn:ix.Nodup:=by decide)(e:ix.map (fun i=>As[i]?)=Bs.map some:=by rfl):Sep Bs W:=by
 have hl:ix.length=Bs.length:=by simpa using congrArg List.length e
 refine M.sub (fun i=>ix.getD i 0) (fun i j hi hj h=>?_) fun i A hA=>?_
 ·have ab:i<ix.length:=by omega
  have ac:j<ix.length:=by omega
  simp only[Oq,Nx ab,Nx ac,Ot]at h;exact(List.getElem_inj hn).1 h
 ·have hi:i<ix.length:=by rw[hl];exact(NQ.1 hA).1
  have:=congrArg (fun l=>l[i]?) e;simp only[Ou,hA,Nx hi,Option.map_some,Option.some.injEq]at this;simpa[Oq,Nx hi]using this
class Has(As:List Asn)(b:Nat)(c:outParam (List Value))(t:outParam TypeId)(i:outParam Nat):Prop where
 out:As[i]? = some (.box b c t)
instance:Has (.box b c t::As) b c t 0:=⟨rfl⟩
instance[h:Has As b c t i]:Has (A::As) b c t (i+1):=⟨h.out⟩
instance{d:List Value}[h:Has As b c t i]:Has (As.set i (.box b d t)) b d t i:=⟨On (NQ.1 h.out).1⟩
class Old(As:List Asn)(w:outParam World):Prop where
 out:∃i:Nat,As[i]? = some (.old w)
instance:Old (.old w::As) w:=⟨0,rfl⟩
instance[h:Old As w]:Old (A::As) w:=⟨let ⟨i,h⟩:=h.out;⟨i+1,h⟩⟩
instance{d:List Value}[h:Has As b c t i][o:Old As w]:Old (As.set i (.box b d t)) w:=
 ⟨let ⟨j,hj⟩:=o.out;⟨j,(Oo (fun e=>by subst e;rw[h.out]at hj;cases hj)).trans hj⟩⟩
def Sep.bel(M:Sep As W)[h:Old As w]:eB w W:=let ⟨_,h1,_⟩:=M;let ⟨i,hi⟩:=h.out;(h1 i _ hi).1
def Sep.blk(M:Sep As W)(h:Has As b c t i):Blk W b c t:=let ⟨_,h1,_⟩:=M;(h1 i _ h.out).1
def Sep.put(M:Sep As W)(h:Has As b c t i)(hb:Blk W' b cs t)(hg:W.grownBy W' (some b)):Sep (As.set i (.box b cs t)) W':=
 M.upd h.out trivial fun F ⟨_,h2⟩=>⟨⟨hg.os,hg.tape,hg.output,hg.size,fun k ⟨hk,hn⟩=>hg.block k hk (fun e=>hn ((h2 k).2 (Option.some.inj e)))⟩,F,⟨hb,h2⟩,fun k hk=> .inl hk⟩
def Sep.alloc(M:Sep As W)(cs)(t:TypeId):Sep (.box W.heap.size cs t::As) (W.alloc (.cells cs.toArray t)):=
 M.push ((NB _ _).alloc (No _) _) (G:=fun k=>k=W.heap.size) ⟨Blk.new W cs t,fun _=>Iff.rfl⟩ fun k hk=>Nat.le_of_eq hk.symm
def Sep.drew(M:Sep As W):Sep As W.drew:=M.ext ((NB _ _).drew)
def Cs(v:Value)(Bs:List Asn)(e:Ending)(W:World):Prop:=e=.returned v/\Sep Bs W
def PS:(∀(x:Asn)(l:List Asn) (v:Asn),(x::l).set 0 v=v::l)/\(∀(x:Asn)(l:List Asn) (i:Nat) (v:Asn),(x::l).set (i+1) v=x::l.set i v)/\∀(l:List Asn)(i:Nat) (v u:Asn),(l.set i v).set i u=l.set i u:=⟨fun _ _ _=>rfl,fun _ _ _ _=>rfl,fun _ _ _ _=>List.set_set ..⟩
def Sep.cz{P}{f:FuncId}{args}{v}{X:Ending->World->Prop}(h:Calls P f args w (Cs v As))(k:∀W,Sep Bs W->X (.returned v) W)(e:As=Bs:=by(try simp only[PS]);try rfl):Calls P f args w X:=
 h.mono fun _ W ⟨e',hb⟩=>e'▸k W (e▸hb)
end
def RowC.el{α:Type}{w}{k n c i:Nat}{A}{l:List α}{f:α->List Value}{x:α}(h:RowC w k (.slice A n c) (l.map f))(hx:l[i]? = some x):∃b o,A=some ⟨b,o,none⟩/\Hid (∀W,eB w W->W.rangeAt b (o+i*k) (f x)):=by
 obtain⟨_,_,e,_,h⟩:=h;obtain⟨b,o,rfl,hb,hc⟩:=h i (f x) (by rw[Ou,hx];rfl);exact⟨b,o,(Value.slice.inj e).1,fun W hW j v hv=>(hW.cell (p:=⟨b,_,none⟩) hb).trans (hc j v hv)⟩
def evo(a:Act):Operand->Option Value
 |.tmp t=>a.tmps.toList[t]?
 |.const v=>some v
 |.func f=>some (.func (.func f) #[] #[])
 |_=>none
def bU{a}{x}{v}(h:evo a x=some v):a.eval x=v:=by
 cases x with
 |tmp t=>
  simp only[evo]at h
  simp only[Act.eval,Ow]
  rw[<-Array.getElem?_toList,h]
  rfl
 |const u=>cases h;rfl
 |func f=>cases h;rfl
 |global g=>cases h
def evl(a:Act):List Operand->Option (List Value)
 |[]=>some []
 |x::xs=>match evo a x with
  |some v=>match evl a xs with
   |some vs=>some (v::vs)
   |none=>none
  |none=>none
def kd{a}:∀{xs:List Operand} {vs:List Value},evl a xs=some vs->xs.map a.eval=vs
 |[],_,h=>by cases h;rfl
 |x::xs,vs,h=>by
  simp only[evl]at h
  cases hx:evo a x with
  |none=>simp only[hx]at h;cases h
  |some v=>
   cases hv:evl a xs with
   |none=>simp only[hx,hv]at h;cases h
   |some us=>
    simp only[hx,hv]at h
    cases h
    rw[NP,bU hx,kd hv]
def pr(P:Program)(T:TypeId):Bool:=(match P.underlying T with|some d=> !d.isRow|none=>false)&&(match P.info? T with|some i=>i.size==1|none=>false)
def wD{P}{T}(h:pr P T=true):(∃d,P.underlying T=some d/\d.isRow=false)/\(P.info? T).map (·.size)=some 1:=by
 unfold pr at h;rw[Ob]at h;obtain⟨h1,h2⟩:=h;constructor
 ·cases hu:P.underlying T with
  |none=>simp only[hu]at h1;cases h1
  |some d=>simp only[hu]at h1;exact⟨d,rfl,by simpa using h1⟩
 ·cases hi:P.info? T with
  |none=>simp only[hi]at h2;cases h2
  |some i=>simp only[hi]at h2;simpa using h2
inductive Rd(P:Program)(T:TypeId)(c:List Value):Nat->Value->Prop
 |cell {o:Nat} {v:Value} (hv:c[o]? = some v) (hT:pr P T=true):Rd P T c o v
 |row {n:Nat} (hn:c.length=n) (hT:bW P T n=true):Rd P T c 0 (.agg c.toArray)
 |front {n:Nat} {l r:List Value} (hc:c=l++r) (hn:l.length=n) (hT:bW P T n=true):Rd P T c 0 (.agg l.toArray)
 |part {o n:Nat} {cs:List Value} (hs:(P.info? T).map (·.size)=some n) (hc:(c.drop o).take n=cs) (hn:cs.length=n) (hT:bW P T n=true):Rd P T c o (.agg cs.toArray)
def Rd.three{P:Program}{T}{c r:List Value}{o:Nat}{x y z:Value}(hs:(P.info? T).map (·.size)=some 3)(hc:c.drop o=x::y::z::r)(hT:bW P T 3=true):Rd P T c o (.agg #[x,y,z]):= .part (cs:=[x,y,z]) hs (by rw[hc];rfl) rfl hT
def cj{P}{T}{c}{o:Nat}{v:Value}(h:Rd P T c o v:=by first|exact .cell rfl (by rfl)|exact .row rfl (by rfl)|exact .front rfl rfl (by rfl)|exact Rd.three (by rfl) (by rfl) (by rfl)|exact .part (by rfl) (by rfl) (by rfl) (by rfl)):Rd P T c o v:=h
class Len(c:List Value)(n:outParam Nat):Prop where
 out:c.length=n
inductive Wr(P:Program)(T:TypeId)(c:List Value):Nat->Value->List Value->Prop
 |cell {o:Nat} {v:Value} {c':List Value} (ho:Nat.blt o c.length=true) (hv:v.oneCell'=true) (e:c.set o v=c') (hT:pr P T=true):Wr P T c o v c'
 |row {n:Nat} {cs:List Value} (hn:c.length=n) (hm:cs.length=n) (h1:(cs.all fun v=>v.oneCell')=true) (hT:bW P T n=true):Wr P T c 0 (.agg cs.toArray) cs
 |part {o n:Nat} {cs c':List Value} (hs:cs.length=n) (ho:Nat.ble (o+n) c.length=true) (h1:(cs.all fun v=>v.oneCell')=true) (e:c.take o++cs++c.drop (o+n)=c') (hT:bW P T n=true):Wr P T c o (.agg cs.toArray) c'
section
variable {P:Program} {As:List Asn} {w:World} {b o:Nat} {c c':List Value} {t T:TypeId} {i:Nat} {v:Value}
def lj{q o0:Nat}(hB:w.rangeAt b o0 c)(h:Rd P T c o v)(hq:q=o0+o):(Instr.loadAt T (.pointer (some ⟨b,q,none⟩))).run P w=.ok v w:=by
 subst hq
 cases h with
 |cell hv hT=>
  obtain⟨⟨d,hu,hd⟩,hi⟩:=wD hT
  have h1:(isAgg T).run P w=.ok false w:=by
   unfold isAgg;rw[NM,run_underlying hu w]
   cases d <;> simp_all
  simp[Instr.loadAt,Instr.sureAddr,loadVar,NM,NN,NO,h1,run_load,hB o v hv]
 |row hn hT=>
  obtain⟨d,hu,hd⟩:=jw hT
  exact run_loadAt_mid w b o0 T c d hB hu hd (by rw[eQ hT,hn])
 |front hc hn hT=>
  obtain⟨d,hu,hd⟩:=jw hT
  exact run_loadAt_mid w b o0 T _ d (fun j v hv=>hB j v (by rw[hc,N4 (NQ.1 hv).1];exact hv)) hu hd (by rw[eQ hT,hn])
 |part hs hc hn hT=>
  obtain⟨d,hu,hd⟩:=jw hT
  refine run_loadAt_mid w b (o0+o) T _ d (fun j v hv=>?_) hu hd (by rw[eQ hT,hn])
  rw[Nat.add_assoc]
  refine hB (o+j) v ?_
  rw[<-hc,NR]at hv
  split at hv
  ·rwa[List.getElem?_drop]at hv
  ·cases hv
def stL:List Value->Nat->List Value->List Value
 |c,_,[]=>c
 |c,o,v::r=>stL (c.set o v) (o+1) r
def se:∀(cs c:List Value)(o:Nat),o+cs.length<=c.length->stL c o cs=c.take o++cs++c.drop (o+cs.length)
 |[],c,o,_=>by simp[stL]
 |v::r,c,o,h=>by
  simp only[M6]at h;rw[stL,se r _ _ (by simp;omega),List.take_set,Ox,Nx (by omega),List.drop_set_of_lt (by omega),M6];have e:(c.take o++(some c[o]).toList).set o v=c.take o++[v]:=by
   rw[Oy _ _ (by simp;omega)];have:o-(c.take o).length=0:=by simp;omega
   rw[this];rfl
  rw[e,show o+1+r.length=o+(r.length+1) by omega];simp
def Ee{c cs:List Value}(h:c.length=cs.length):stL c 0 cs=cs:=by rw[se cs c 0 (by omega)];simp[<-h]
def sh:∀(cs:List Value) {w:World} {c:List Value} (o:Nat),Blk w b c t->Blk (w.setCells b o cs) b (stL c o cs) t/\w.grownBy (w.setCells b o cs) (some b)
 |[],w,c,o,h=>⟨h,World.grownBy.refl _ _⟩
 |v::r,w,c,o,h=>by
  obtain⟨h1,h2⟩:=sh r (o+1) (h.set o v);exact⟨h1,(cM w b o v).trans h2⟩
def Ef(hB:Blk w b c t)(h:Wr P T c o v c'):∃W,(Instr.storeAt T (.pointer (some ⟨b,o,none⟩)) v).run P w=.ok () W/\Blk W b c' t/\w.grownBy W (some b):=by
 cases h with
 |cell ho hv e hT=>
  rw[Nat.blt_eq]at ho
  obtain⟨_,hi⟩:=wD hT
  obtain⟨i,hi,hs⟩:∃i,P.info? T=some i/\i.size=1:=by
   cases hq:P.info? T with
   |none=>rw[hq]at hi;cases hi
   |some i=>rw[hq]at hi;exact⟨i,rfl,by simpa using hi⟩
  have hc:=hB.at o _ (Nx ho)
  have ab:v.cells=#[v]:=by cases v <;> simp_all [Value.oneCell',Value.cells]
  refine⟨w.setCell ⟨b,o,none⟩ v,?_,e▸hB.set o v,cM _ _ _ _⟩
  simp[Instr.storeAt,Instr.sureAddr,storeVar,sizeOf,typeInfo,hi,hs,ab,storeCells,run_store _ _ _ _ _ hv,Addr.add,hc.1,hc.2,NM,NN,NO]
 | @row n _ hn hm h1 hT=>
  obtain⟨a1,a2⟩:=sh c' 0 hB
  rw[Ee (c:=c) (cs:=c') (by omega)]at a1
  refine⟨_,run_storeAt_mid w b 0 T c'.toArray (fun j hj=>?_) (by rw[eQ hT];simp[hm]) (by simpa using h1),a1,a2⟩
  have ac:0+j<c.length:=by simp at hj;omega
  have:=hB.at (0+j) _ (Nx ac)
  exact⟨by rw[this.1];rfl,this.2⟩
 | @part o n cs c' hs ho h1 e hT=>
  rw[Nat.ble_eq]at ho
  obtain⟨a1,a2⟩:=sh cs o hB
  refine⟨_,run_storeAt_mid w b o T cs.toArray (fun j hj=>?_) (by rw[eQ hT];simp[hs]) (by simpa using h1),by rw[<-e,<-hs,<-se _ _ _ (by omega)];exact a1,a2⟩
  have ac:o+j<c.length:=by simp at hj;omega
  have:=hB.at (o+j) _ (Nx ac)
  exact⟨by rw[this.1];rfl,this.2⟩
end
class Fct(p:Prop):Prop where
 out:p
class ah(w:World)(v:Value)(α:outParam Type)(k:outParam Nat)(l:outParam (List α))(f:outParam (α->List Value)):Prop where
 out:RowC w k v (l.map f)
 le:l.length<=1048576
def ah.sl{w}{v}{α:Type}{k:Nat}{l:List α}{f:α->List Value}(h:ah w v α k l f):∃A c,v=.slice A l.length c:=by
 obtain⟨A,c,e⟩:=h.1.len;exact⟨A,c,by rw[e,N6]⟩
theorem ah.tk{w}{A}{n c:Nat}{α:Type}{k:Nat}{l:List α}{f:α->List Value}(h:ah w (.slice A n c) α k l f){m:Nat}(hm:m<=n):ah w (.slice A m c) α k (l.take m) f:=⟨by rw[List.map_take];exact h.1.take m hm,by have:=h.le;rw[Nz];omega⟩
def slK(P:Program)(t:TypeId)(k:Nat):Bool:=match P.underlying t with
 |some (.slice e)=>(match P.info? e with|some i=>i.size==k|none=>false)
 |_=>false
def sk{P}{t}{k:Nat}(h:slK P t k=true):∃e i,P.underlying t=some (.slice e)/\P.info? e=some i/\i.size=k:=by
 unfold slK at h;split at h
 ·rename_i e hu;split at h
  ·rename_i i hi;exact⟨e,i,hu,hi,by simpa using h⟩
  ·cases h
 ·cases h
section
variable {P:Program} {As:List Asn} {w w0:World} {ops:Array Oper} {rest:List Oper} {Q:Exit->Act->World->Prop} {op:Oper} {a a':Act} {x y:Operand} {t:TypeId} {v:Value} {α:Type} {k i:Nat} {l:List α} {f:α->List Value} {e:α} {kk:IntKind}
def Eg(h:RowC w0 k v (l.map f))(hT:slK P t k=true)(ty):(Builtin.len_ #[t] ty #[v]).run P w=.ok (.int .i64 (l.length:Int)) w:=by
 obtain⟨e,i,hu,hi,hs⟩:=sk hT;obtain⟨A,c,rfl⟩:=h.len;have he:P.underlying t=some (.slice (P.elem t)):=by simp[Program.elem,hu]
 rw[run_len_slice w t ty A _ c he,N6];rfl
def pt(h:RowC w0 k v (l.map f))(hx:l[i]? = some e)(hT:slK P t k=true):∃b q,(∀W,eB w0 W->W.rangeAt b q (f e))/\∀w,(Instr.indexAt t v (.int kk (i:Int))).run P w=.ok (.pointer (some ⟨b,q,none⟩)) w:=by
 obtain⟨el,ii,hu,hi,hs⟩:=sk hT;obtain⟨A,c,rfl⟩:=h.len;obtain⟨b,o,rfl,hE⟩:=h.el hx;have ac:i<l.length:=(NQ.1 hx).1;have he:P.underlying t=some (.slice (P.elem t)):=by simp[Program.elem,hu]
 have ab:P.elem t=el:=by simp[Program.elem,hu]
 refine⟨b,o+i*k,hE.out,fun w=>?_⟩;rw[run_indexAt_slice w t ⟨b,o,none⟩ _ c kk (i:Int) he];have h1:(0:Int)<=(i:Int)/\(i:Int)<((l.map f).length:Int):=by rw[N6];omega
 simp[h1,ab,sizeOf,typeInfo,hi,hs,Addr.add_mid,NM,NN,NO];try omega
end
def upC:List Asn->Nat->List Value->List Asn
 |.box b _ t::l,0,c=> .box b c t::l
 |A::l,i+1,c=>A::upC l i c
 |l,_,_=>l
def upR:List Asn->Nat->Value->List (List Value)->List Asn
 |.row _ T k _::l,0,v,L=> .row v T k L::l
 |A::l,i+1,v,L=>A::upR l i v L
 |l,_,_,_=>l
class cH(As:List Asn)(v:Value)(e:TypeId)(k:outParam Nat)(L:outParam (List (List Value)))(i:outParam Nat):Prop where
 out:As[i]? = some (.row v e k L)
section
variable {As:List Asn} {A:Asn} {v:Value} {e:TypeId} {k i:Nat} {L:List (List Value)} {w:World}
instance:cH (.row v e k L::As) v e k L 0:=⟨rfl⟩
instance[h:cH As v e k L i]:cH (A::As) v e k L (i+1):=⟨h.out⟩
def Sep.own(M:Sep As w)(h:cH As v e k L i):aa w 0 e k v L:=let ⟨_,h1,_⟩:=M;(h1 i _ h.out).1
def Eh{k i:Nat}{c}(h:RowC w k v L)(hc:L[i]? = some c):∃b o n cp,v=.slice (some ⟨b,o,none⟩) n cp/\i<n/\∀W,RowC W k v L->W.rangeAt b (o+i*k) c:=by
 obtain⟨A,cap,rfl,_,h⟩:=h;obtain⟨b,off,rfl,_,_⟩:=h i c hc;refine⟨b,off,_,_,rfl,(NQ.1 hc).1,fun W hW=>?_⟩;obtain⟨A',ab,e,_,h'⟩:=hW;injection e with e1 e2 e3;obtain⟨b',ac,e',_,hx⟩:=h' i c hc;rw[<-e1]at e';injection e' with e';injection e' with e1 e2;subst e1 e2;exact hx
end
def wE{P}{w}{v}{k:Nat}{n:Int}{L:List (List Value)}{c}{t}{kk:IntKind}(h:RowC w k v L)(h0:0<=n)(hx:L[n.toNat]? = some c)(hT:slK P t k=true):∃b q,(∀W,RowC W k v L->W.rangeAt b q c)/\∀w,(Instr.indexAt t v (.int kk n)).run P w=.ok (.pointer (some ⟨b,q,none⟩)) w:=by
 obtain⟨el,ii,hu,hi,hs⟩:=sk hT;obtain⟨m,rfl⟩:∃m:Nat,n=(m:Int):=⟨n.toNat,by omega⟩
 rw[NI]at hx;obtain⟨b,o,l,cp,rfl,hl,hE⟩:=Eh h hx;have he:P.underlying t=some (.slice (P.elem t)):=by simp[Program.elem,hu]
 have ab:P.elem t=el:=by simp[Program.elem,hu]
 refine⟨b,o+m*k,hE,fun w=>?_⟩;rw[run_indexAt_slice w t ⟨b,o,none⟩ _ cp kk (m:Int) he];have h1:(0:Int)<=(m:Int)/\(m:Int)<(l:Int):=by omega
 simp[h1,ab,sizeOf,typeInfo,hi,hs,Addr.add_mid,NM,NN,NO];try omega
section
variable {P:Program} {As Bs Cz:List Asn} {w w0:World} {ops:Array Oper} {l rest:List Oper} {Q:Exit->Act->World->Prop} {op:Op} {oper:Oper} {a:Act} {x y:Operand} {t T:TypeId} {v:Value} {α:Type} {k i b o q n:Nat} {is:List Nat} {xl:List α} {f:α->List Value} {e:α} {kk:IntKind} {ι:Type} {g:ι->List Asn} {c c' z:List Value} {fn:FuncId} {args:Array Value} {X:Ending->World->Prop}
class Con(P:Program)(f:FuncId)(args:Array Value)(As:List Asn)(v:outParam Value)(Bs:outParam (List Asn)):Prop where
 out:∀w,Sep As w->Calls P f args w (Cs v Bs)
class aB(P:Program)(f:FuncId)(args:Array Value)(As:List Asn)(v:outParam Value):Prop where
 out:∀w,Sep As w->Calls P f args w (Ret w v)
instance[h:aB P fn args As v]:Con P fn args As v As:=⟨fun w M=>(h.out w M).mono fun _ _ ⟨h1,h2⟩=>⟨h1,M.ext h2⟩⟩
theorem Con.ret{P}{f:FuncId}{args}{As}{v}(h:∀w,Sep As w->Calls P f args w (Ret w v)):Con P f args As v As:=⟨fun w M=>(h w M).mono fun _ _ ⟨h1,h2⟩=>⟨h1,M.ext h2⟩⟩
class fC(P:Program)(f:FuncId)(args:Array Value)(As:List Asn)(p:outParam (List PanicEntry)):Prop where
 out:∀w,Sep As w->Calls P f args w (fun e W=>e=.panicked p/\Sep As W)
inductive Qt(P:Program)(As:List Asn)(op:Op)(a:Act):Value->Prop
 |load {T t:TypeId} {x:Operand} {b o i:Nat} {c:List Value} {v:Value} (ho:op=.load T x) (hx:a.eval x=.pointer (some ⟨b,o,none⟩)) (hh:Has As b c t i) (hr:Rd P T c o v):Qt P As op a v
 |elem {T:TypeId} {x:Operand} {b q:Nat} {c:List Value} {v:Value} {w0:World} (ho:op=.load T x) (hx:a.eval x=.pointer (some ⟨b,q,none⟩)) (hE:Hid (∀W,eB w0 W->W.rangeAt b q c)) (hO:Old As w0) (hr:Rd P T c 0 v):Qt P As op a v
 |part {T:TypeId} {x:Operand} {b q j:Nat} {c:List Value} {v:Value} {w0:World} (ho:op=.load T x) (hx:a.eval x=.pointer (some ⟨b,q+j,none⟩)) (hE:Hid (∀W,eB w0 W->W.rangeAt b q c)) (hO:Old As w0) (hr:Rd P T c j v):Qt P As op a v
 |rel {T e:TypeId} {x:Operand} {b q k j:Nat} {u:Value} {c:List Value} {v:Value} {L:List (List Value)} (ho:op=.load T x) (hx:a.eval x=.pointer (some ⟨b,q,none⟩)) (hE:Hid (∀As j W,cH As u e k L j->Sep As W->W.rangeAt b q c)) (hO:cH As u e k L j) (hr:Rd P T c 0 v):Qt P As op a v
 |rpart {T e:TypeId} {x:Operand} {b q o k j:Nat} {u:Value} {c:List Value} {v:Value} {L:List (List Value)} (ho:op=.load T x) (hx:a.eval x=.pointer (some ⟨b,q+o,none⟩)) (hE:Hid (∀As j W,cH As u e k L j->Sep As W->W.rangeAt b q c)) (hO:cH As u e k L j) (hr:Rd P T c o v):Qt P As op a v
 |len {t:TypeId} {x:Operand} {v:Value} {α:Type} {k:Nat} {l:List α} {f:α->List Value} {w0:World} (ho:op=.call {callee:= .builtin .len,args:=#[x],argTypes:=#[t]}) (hx:evo a x=some v) (hO:Old As w0) (hR:ah w0 v α k l f) (hT:slK P t k=true):Qt P As op a (.int .i64 (l.length:Int))
def Qt.run(M:Sep As w)(h:Qt P As oper.op a v):(execOp a.eval oper).run P w=.ok (.value v) w:=by
 cases h with
 |load ho hx hh hr=>unfold execOp;simp only[ho,hx,NM,lj (ai (M.blk hh)) hr (Nm _).symm,NO,NN]
 |elem ho hx hE hO hr=>have h1:=lj (hE.out _ (M.bel (h:=hO))) hr (Na _).symm;unfold execOp;simp only[ho,hx,NM,h1,NO,NN]
 |part ho hx hE hO hr=>unfold execOp;simp only[ho,hx,NM,lj (hE.out _ (M.bel (h:=hO))) hr rfl,NO,NN]
 |rel ho hx hE hO hr=>have h1:=lj (hE.out _ _ _ hO M) hr (Na _).symm;unfold execOp;simp only[ho,hx,NM,h1,NO,NN]
 |rpart ho hx hE hO hr=>unfold execOp;simp only[ho,hx,NM,lj (hE.out _ _ _ hO M) hr rfl,NO,NN]
 |len ho hx hO hR hT=>
  have:=Eg (w:=w) hR.out hT oper.type
  unfold execOp
  simp[ho,resolve,invoke,builtin,bU hx,this,NM,NO,NN]
inductive St(P:Program)(As:List Asn)(op:Op)(a:Act):(Nat->Nat->Prop)->(Nat->Nat->List Asn)->(Nat->Nat->Value)->Prop
 |qt {v:Value} (h:Qt P As op a v):St P As op a (fun _ _=>Hid True) (fun _ _=>As) (fun _ _=>v)
 |idx {t:TypeId} {x y:Operand} {v:Value} {α:Type} {k i:Nat} {l:List α} {f:α->List Value} {e:α} {kk:IntKind} {w0:World} (ho:op=.indexAddr t x y) (hx:evo a x=some v) (hy:a.eval y=.int kk (i:Int)) (hO:Old As w0) (hR:ah w0 v α k l f) (he:l[i]? = some e) (hT:slK P t k=true) :
  St P As op a (fun b q=>Hid (∀W,eB w0 W->W.rangeAt b q (f e))) (fun _ _=>As) (fun b q=> .pointer (some ⟨b,q,none⟩))
 |idz {t:TypeId} {x y:Operand} {v:Value} {α:Type} {k:Nat} {n:Int} {l:List α} {f:α->List Value} {e:α} {kk:IntKind} {w0:World} (ho:op=.indexAddr t x y) (hx:evo a x=some v) (hy:a.eval y=.int kk n) (hO:Old As w0) (hR:ah w0 v α k l f) (he:Hid (0<=n/\l[n.toNat]? = some e)) (hT:slK P t k=true) :
  St P As op a (fun b q=>Hid (∀W,eB w0 W->W.rangeAt b q (f e))) (fun _ _=>As) (fun b q=> .pointer (some ⟨b,q,none⟩))
 |idr {t el:TypeId} {x y:Operand} {v:Value} {k j:Nat} {n:Int} {L:List (List Value)} {c:List Value} {kk:IntKind} (ho:op=.indexAddr t x y) (hx:evo a x=some v) (hy:a.eval y=.int kk n) (hu:P.underlying t=some (.slice el)) (hR:cH As v el k L j) (he:Hid (0<=n/\L[n.toNat]? = some c)) (hT:slK P t k=true) :
  St P As op a (fun b q=>Hid (∀As j W,cH As v el k L j->Sep As W->W.rangeAt b q c)) (fun _ _=>As) (fun b q=> .pointer (some ⟨b,q,none⟩))
 |alloc {T:TypeId} {zv:Value} {z:List Value} (ho:op=.alloc T) (hz:(P.info? T).bind (·.zero)=some zv) (hc:zv.cells.toList=z):St P As op a (fun _ _=>Hid True) (fun b _=> .box b z T::As) (fun b _=> .pointer (some ⟨b,0,none⟩))
 |box {T:TypeId} {x:Operand} {v:Value} {z:List Value} (ho:op=.box T x) (hx:evo a x=some v) (hc:v.cells=z.toArray):St P As op a (fun _ _=>Hid True) (fun b _=> .box b z T::As) (fun b _=> .pointer (some ⟨b,0,none⟩))
 |store {T t:TypeId} {x y:Operand} {v:Value} {b o i:Nat} {c c':List Value} {Bs:List Asn} (ho:op=.store T x y) (hx:a.eval x=.pointer (some ⟨b,o,none⟩)) (hy:evo a y=some v) (hh:Has As b c t i) (hw:Wr P T c o v c') (hu:As.set i (.box b c' t)=Bs):St P As op a (fun _ _=>Hid True) (fun _ _=>Bs) (fun _ _=>undef)
 |call {fn:FuncId} {y:Operand} {xs:List Operand} {vs us cs:List Value} {ts:Array TypeId} {v:Value} {Bs Cz:List Asn} (ho:op=.call {callee:= .value y,args:=xs.toArray,argTypes:=ts}) (hf:evo a y=some (.func (.func fn) #[] cs.toArray)) (hx:evl a xs=some vs) (hv:vs++cs=us) (hC:Con P fn us.toArray As v Bs) (hu:Bs=Cz) (hc:∀w,(callFunc fn us.toArray).run P w=.ok (.enter fn us.toArray) w):St P As op a (fun _ _=>Hid True) (fun _ _=>Cz) (fun _ _=>v)
def St.wp{K:Act->World->Prop}{H:Nat->Nat->Prop}{Bs:Nat->Nat->List Asn}{r:Nat->Nat->Value}(M:Sep As w)(h:St P As oper.op a H Bs r)(k:∀b q W,H b q->Sep (Bs b q) W->K (a.put oper.dst (r b q)) W):oper.wp P a w K Q:=by
 unfold Oper.wp
 cases h with
 |qt h=>rw[h.run M];exact k 0 0 w trivial M
 | @idx t x y v α k' i l f e kk w0 ho hx hy hO hR he hT=>
  obtain⟨b,q,hE,ab⟩:=pt (P:=P) (kk:=kk) hR.out he hT
  unfold execOp
  simp only[ho,bU hx,hy,ab,NM,NO,NN]
  exact k b q w hE M
 | @idz t x y v α k' n l f e kk w0 ho hx hy hO hR he hT=>
  obtain⟨i,rfl⟩:∃i:Nat,n=(i:Int):=⟨n.toNat,by have:=he.1;omega⟩
  obtain⟨b,q,hE,ab⟩:=pt (P:=P) (kk:=kk) hR.out (by simpa using he.2) hT
  unfold execOp
  simp only[ho,bU hx,hy,ab,NM,NO,NN]
  exact k b q w hE M
 | @idr t el x y v k' j n L c kk ho hx hy hu hR he hT=>
  obtain⟨b,q,hE,ab⟩:=wE (P:=P) (kk:=kk) (M.own hR).row he.1 he.2 hT
  unfold execOp
  simp only[ho,bU hx,hy,ab,NM,NO,NN]
  exact k b q w (fun As j W hR M=>hE W (M.own hR).row) M
 | @alloc T zv z ho hz hc=>
  have h1:(execOp a.eval oper).run P w=.ok (.value (.pointer w.heap.size)) (w.alloc (.cells z.toArray T)):=by
   cases hi:P.info? T with
   |none=>simp[hi]at hz
   |some i=>
    have ad:i.zero=some zv:=by simpa[hi]using hz
    unfold execOp
    simp only[ho]
    simp[Instr.alloc,zeroValue,typeInfo,hi,ad,newVar,<-hc,go_sem]
  rw[h1]
  exact k _ 0 _ trivial (M.alloc z T)
 | @box T x v z ho hx hc=>
  have h1:(execOp a.eval oper).run P w=.ok (.value (.pointer w.heap.size)) (w.alloc (.cells z.toArray T)):=by
   unfold execOp;simp only[ho,bU hx,Instr.box,newVar,hc];generalize z.toArray=z';simp[go_sem]
  rw[h1]
  exact k _ 0 _ trivial (M.alloc z T)
 |store ho hx hy hh hw hu=>
  obtain⟨W,ab,hb,ac⟩:=Ef (M.blk hh) hw
  unfold execOp
  simp only[ho,hx,bU hy,NM,ab,NO,NN,Oper.upon_skip]
  exact k 0 0 W trivial (hu▸M.put hh hb ac)
 | @call fn y xs vs us cs ts v Bs Cz ho hf hx hv hC hu hc=>
  have hm:=kd hx
  have e1:(execOp a.eval oper).run P w=.ok (.enter fn us.toArray) w:=by
   subst hv;unfold execOp;simp[ho,resolve,hm,bU hf,Deferred.ofValue,invoke,hc,NM,NO,NN]
  rw[e1,Oper.upon_enter]
  refine(hC.out w M).mono fun _ W ⟨e',hb⟩=>?_
  subst e' hu
  exact k 0 0 W trivial hb
def Ei:Op->Bool
 |.load .. |.store .. |.alloc .. |.box .. |.indexAddr ..=>true
 |.call c=>(match c.callee with |.builtin .len=>true |.value _=>true|_=>false)
 |_=>false
def su:Op->Bool
 |.load ..=>true
 |.call c=>(match c.callee with |.builtin .len=>true|_=>false)
 |_=>false
def wF:Op->Bool
 |.indexAddr ..=>true
 |_=>false
def mm{H:Nat->Nat->Prop}{Cs:Nat->Nat->List Asn}{r:Nat->Nat->Value}{a':Nat->Nat->Act}(M:Sep As w)(h:∀b q W,H b q->Sep (Cs b q) W->wpList P ops Q rest (a' b q) W)(hk:Ei oper.op=true:=by rfl)(hs:St P As oper.op a H Cs r:=by first
  |exact .qt (.load rfl rfl (by infer_instance) (by first|exact cj|exact .row Len.out (by rfl)))
  |exact .store rfl rfl rfl (by infer_instance) (by first|exact .cell (by first|rfl|(simp;omega)) (by rfl) (by(try simp only[PT]);rfl) (by rfl)|exact .row rfl rfl (by first|rfl|exact Fct.out) (by rfl)|exact .row rfl Len.out Fct.out (by rfl)|exact .part rfl (by rfl) (by rfl) (by(try simp only[PT,Ol,N3,List.drop_succ_cons,List.drop_zero,MZ,M9]);rfl) (by rfl)) (by(try simp only[PS]);try rfl)
  |exact .call rfl rfl rfl (by(try simp only[MZ,M9,Oz]);rfl) (by infer_instance) (by(try simp only[PS]);try rfl) (by intro w;simp)
  |exact .alloc rfl rfl (by(try simp only[Value.cells,List.toList_toArray]);rfl)
  |exact .box rfl rfl rfl
  |exact .qt (.len rfl rfl (by infer_instance) (by infer_instance) (by kernel_rfl))
  |exact .idx rfl rfl rfl (by infer_instance) (by infer_instance) (by assumption) (by kernel_rfl)
  |exact .idz rfl rfl rfl (by infer_instance) (by infer_instance) (by assumption) (by kernel_rfl)
  |exact .qt (.elem rfl rfl (by assumption) (by infer_instance) cj)
  |exact .qt (.part rfl rfl (by assumption) (by infer_instance) cj)
  |exact .idr rfl rfl rfl rfl (by infer_instance) (by assumption) (by kernel_rfl)
  |exact .qt (.rel rfl rfl (by assumption) (by infer_instance) cj)
  |exact .qt (.rpart rfl rfl (by assumption) (by infer_instance) cj))
 (hw:Region.wanted oper (yielded ops a.tmps)=true:=by rfl) (e:∀b q,a.put oper.dst (r b q)=a' b q:=by intro b q;(try simp only[PT]);try rfl):wpList P ops Q (oper::rest) a w:=by
 have _:=hk
 simp only[wpList]
 rw[if_pos hw]
 exact Or.inl (hs.wp M fun b q W hH hM=>by rw[e];exact h b q W hH hM)
def evp(a:Act):List (Nat×Operand)->Option (List (Nat×Value))
 |[]=>some []
 |(i,x)::xs=>match evo a x with
  |some v=>match evp a xs with
   |some vs=>some ((i,v)::vs)
   |none=>none
  |none=>none
def mZ{a}:∀{xs:List (Nat×Operand)} {vs:List (Nat×Value)},evp a xs=some vs->xs.map (fun(i,x)=>(i,a.eval x))=vs
 |[],_,h=>by cases h;rfl
 |(i,x)::xs,vs,h=>by
  simp only[evp]at h
  cases hx:evo a x with
  |none=>simp only[hx]at h;cases h
  |some v=>
   cases hv:evp a xs with
   |none=>simp only[hx,hv]at h;cases h
   |some us=>
    simp only[hx,hv]at h
    cases h
    rw[NP,mZ hv]
    show(i,a.eval x)::_=_
    rw[bU hx]
def mk{a'}{ps:List (Nat×Operand)}{vs:List (Nat×Value)}(cs:List Value)(h:wpList P ops Q rest a' w)(ho:oper.op=.build t ps.toArray:=by rfl)(hp:evp a ps=some vs:=by rfl)(hb:P.built t vs=some cs.toArray:=by kernel_rfl)(hw:Region.wanted oper (yielded ops a.tmps)=true:=by rfl)(e:a.put oper.dst (.agg cs.toArray)=a':=by(try simp only[PT]);try rfl):wpList P ops Q (oper::rest) a w:=by
 subst e;simp only[wpList];rw[if_pos hw];refine Or.inl ?_;have h1:(execOp a.eval oper).run P w=.ok (.value (.agg cs.toArray)) w:=by
  have hm:=mZ hp;unfold execOp;simp only[ho,List.map_toArray,hm,NM,run_build (P:=P) w t vs.toArray cs.toArray (by simpa using hb),NO,NN]
 unfold Oper.wp;rw[h1];exact h
def mc(M:Sep As w)(h:∀W,Sep Cz W->X (.returned v) W)(hC:Con P fn args As v Bs:=by infer_instance)(e:Bs=Cz:=by(try simp only[PS]);try rfl):Calls P fn args w X:=
 Sep.cz (hC.out w M) h e
def mcz(M:Sep As w)(h:∀(_ _:Nat) W,Hid True->Sep Cz W->X (.returned v) W)(hC:Con P fn args As v Bs:=by infer_instance)(e:Bs=Cz:=by(try simp only[PS]);try rfl):Calls P fn args w X:=
 Sep.cz (hC.out w M) (fun W M=>h 0 0 W trivial M) e
def mz{G:Prop}{H:Nat->Nat->Prop}{Cs:Nat->Nat->List Asn}{K:Nat->Nat->World->Prop}(M:Sep As w)(h:∀{b q W} {_:H b q},Sep (Cs b q) W->K b q W)(g:Sep As w->(∀b q W,H b q->Sep (Cs b q) W->K b q W)->G:=by first|exact fun M h=>mm M h|exact fun M h=>mcz M h):G:=g M fun _ _ _ c M=>@h _ _ _ c M
def mx{p:List PanicEntry}(M:Sep As w)(h:∀W,Sep As W->X (.panicked p) W)(hC:fC P fn args As p:=by infer_instance):Calls P fn args w X:=
 (hC.out w M).mono fun _ W ⟨e,M'⟩=>by subst e;exact h W M'
class Ab(As:List Asn){ι:outParam Type}(f:outParam (ι->List Asn)):Prop where
 out:∃z,f z=As
instance(priority:=low)(As:List Asn):Ab As (fun _:Bool=>As):=⟨true,rfl⟩
def Ab.to{g h:ι->List Asn}(_:Ab Cz h)(e:∀z,h z=g z):∃z,g z=Cz:=let ⟨z,hz⟩:=Ab.out (As:=Cz) (f:=h);⟨z,by rw[<-e,hz]⟩
def Ab.to0{g h:ι->List Asn}(H:Ab Cz h)(e:∀z,h z=g z):∃z n,g z=Cz.drop n:=let ⟨z,hz⟩:=H.to e;⟨z,0,hz⟩
def mg{id:Nat}{h:ι->List Asn}(M:Sep As w)(ab:List Nat)(k:∀W,Sep As W->aE P l.toArray Q (fun W=>∃z,Sep (g z) W) ab a W)(hA:Ab As h:=by infer_instance)(e:∀z,h z=g z:=by intro z;(try simp only[PS]);try rfl)(hm:P.follows .mixedOrders=true:=by kernel_rfl)(ac:jv l ab=true:=by kernel_rfl)(hQ:∀(i:Nat)(o),l.toArray[i]? = some o->∀c (a:Act) (v) (w),Q (.panic c) (a.put o.dst v) w->Q (.panic c) a w:=by(intro i o _ c a v w;generalize o.dst=d;cases d <;> exact fun h=>h)):(Code.region id l.toArray true).wp P Q a w:=
 aJ (S:=fun W=>∃z,Sep (g z) W) ab (let ⟨z,hz⟩:=hA.out;⟨z,by rw[<-e,hz];exact M.drew⟩) (fun _=>k _ M.drew) hm ac hQ
def mg1{id:Nat}{g:List Value->List Asn}(M:Sep As w)(p:Nat)(ab:List Nat)(k:∀W,Sep As W->aE P l.toArray Q (fun W=>∃z,Sep (g z) W) ab a W)(e:∀z,upC As p z=g z:=by intro z;(try simp only[upC]);try rfl)(hA:∃z,g z=As:=by exact⟨_,rfl⟩)(hm:P.follows .mixedOrders=true:=by kernel_rfl)(ac:jv l ab=true:=by kernel_rfl)(hQ:∀(i:Nat)(o),l.toArray[i]? = some o->∀c (a:Act) (v) (w),Q (.panic c) (a.put o.dst v) w->Q (.panic c) a w:=by(intro i o _ c a v w;generalize o.dst=d;cases d <;> exact fun h=>h)):(Code.region id l.toArray true).wp P Q a w:=
 have _:=e
 aJ (S:=fun W=>∃z,Sep (g z) W) ab (let ⟨z,hz⟩:=hA;⟨z,by rw[hz];exact M.drew⟩) (fun _=>k _ M.drew) hm ac hQ
def mg2{id:Nat}{g:List Value×List Value->List Asn}(M:Sep As w)(p q:Nat)(ab:List Nat)(k:∀W,Sep As W->aE P l.toArray Q (fun W=>∃z,Sep (g z) W) ab a W)(e:∀z,upC (upC As p z.1) q z.2=g z:=by intro z;(try simp only[upC]);try rfl)(hA:∃z,g z=As:=by exact⟨(_,_),rfl⟩)(hm:P.follows .mixedOrders=true:=by kernel_rfl)(ac:jv l ab=true:=by kernel_rfl)(hQ:∀(i:Nat)(o),l.toArray[i]? = some o->∀c (a:Act) (v) (w),Q (.panic c) (a.put o.dst v) w->Q (.panic c) a w:=by(intro i o _ c a v w;generalize o.dst=d;cases d <;> exact fun h=>h)):(Code.region id l.toArray true).wp P Q a w:=
 have _:=e
 aJ (S:=fun W=>∃z,Sep (g z) W) ab (let ⟨z,hz⟩:=hA;⟨z,by rw[hz];exact M.drew⟩) (fun _=>k _ M.drew) hm ac hQ
def sq{a'}(h:aE P l.toArray Q (fun W=>∃z,Sep (g z) W) is a' w)(hi:Nat.blt i 1000=true:=by rfl)(hl:l.drop i=oper::rest:=by rfl)(hk:su oper.op=true:=by rfl)(hq:∀z,Qt P (g z) oper.op a v:=by intro z;first
  |exact .load rfl rfl (by infer_instance) cj
  |exact .len rfl rfl (by infer_instance) (by infer_instance) (by kernel_rfl)
  |exact .elem rfl rfl (by assumption) (by infer_instance) cj
  |exact .part rfl rfl (by assumption) (by infer_instance) cj
  |exact .rel rfl rfl (by assumption) (by infer_instance) cj
  |exact .rpart rfl rfl (by assumption) (by infer_instance) cj)
 (hw:Region.wanted oper (yielded l.toArray a.tmps)=true:=by rfl) (e:a.put oper.dst v=a':=by(try simp only[PT]);try rfl):aE P l.toArray Q (fun W=>∃z,Sep (g z) W) (i::is) a w:=by
 subst e
 exact mV hi hl hw (fun w ⟨z,M⟩=>(hq z).run M) h
def si{H:Nat->Nat->Prop}{a':Nat->Nat->Act}(h:∀b q,H b q->aE P l.toArray Q (fun W=>∃z,Sep (g z) W) is (a' b q) w)(hi:Nat.blt i 1000=true:=by rfl)(hl:l.drop i=oper::rest:=by rfl)(hk:wF oper.op=true:=by rfl)(hs:∃t x y v,∃(α:Type)(k:Nat) (n:Int) (xl:List α) (f:α->List Value) (e:α) (kk:IntKind) (w0:World),oper.op=.indexAddr t x y/\evo a x=some v/\a.eval y=.int kk n/\(∀z,Old (g z) w0)/\ah w0 v α k xl f/\(0<=n/\xl[n.toNat]? = some e)/\slK P t k=true/\H=(fun b q=>Hid (∀W,eB w0 W->W.rangeAt b q (f e))):=by
  first
  |exact⟨_,_,_,_,_,_,_,_,_,_,_,_,rfl,rfl,rfl,by intro z;infer_instance,by infer_instance,⟨Int.natCast_nonneg _,by(try rw[NI]);assumption⟩,by kernel_rfl,rfl⟩
  |exact⟨_,_,_,_,_,_,_,_,_,_,_,_,rfl,rfl,rfl,by intro z;infer_instance,by infer_instance,Hid.out (by assumption),by kernel_rfl,rfl⟩)
 (hw:Region.wanted oper (yielded l.toArray a.tmps)=true:=by rfl) (e:∀b q,a.put oper.dst (.pointer (some ⟨b,q,none⟩))=a' b q:=by intro b q;(try simp only[PT]);try rfl):aE P l.toArray Q (fun W=>∃z,Sep (g z) W) (i::is) a w:=by
 obtain⟨t,x,y,v,α,k,n,xl,f,el,kk,w0,ho,hx,hy,hO,hR,he,hT,rfl⟩:=hs;obtain⟨i,rfl⟩:∃i:Nat,n=(i:Int):=⟨n.toNat,by have:=he.1;omega⟩
 obtain⟨b,q,hE,ab⟩:=pt (P:=P) (kk:=kk) hR.out (by simpa using he.2) hT;refine mV (v:= .pointer (some ⟨b,q,none⟩)) hi hl hw (fun w _=>?_) ?_
 ·unfold execOp;simp only[ho,bU hx,hy,ab,NM,NO,NN]
 ·rw[e];exact h b q hE
def sr{el}{S:World->Prop}{n:Int}{L:List (List Value)}{j:Nat}{a':Nat->Nat->Act}(M:Sep As w)(h:∀b q,Hid (∀As j W,cH As v el k L j->Sep As W->W.rangeAt b q c)->aE P l.toArray Q S is (a' b q) w)(hi:Nat.blt i 1000=true:=by rfl)(hl:l.drop i=oper::rest:=by rfl)(ho:oper.op=.indexAddr t x y:=by rfl)(hx:evo a x=some v:=by rfl)(hy:a.eval y=.int kk n:=by rfl)(hu:P.underlying t=some (.slice el):=by rfl)(hR:cH As v el k L j:=by infer_instance)(he:Hid (0<=n/\L[n.toNat]? = some c):=by assumption)(hT:slK P t k=true:=by kernel_rfl)(hw:Region.wanted oper (yielded l.toArray a.tmps)=true:=by rfl)(e:∀b q,a.put oper.dst (.pointer (some ⟨b,q,none⟩))=a' b q:=by intro b q;(try simp only[PT]);try rfl):aE P l.toArray Q S (i::is) a w:=by
 have _:=hu;obtain⟨b,q,hE,ab⟩:=wE (P:=P) (kk:=kk) (M.own hR).row he.1 he.2 hT;refine mV (v:= .pointer (some ⟨b,q,none⟩)) hi hl hw (fun w _=>?_) ?_
 ·unfold execOp;simp only[ho,bU hx,hy,ab,NM,NO,NN]
 ·rw[e];exact h b q (fun As j W hR M=>hE W (M.own hR).row)
def sc{a'}(M:Sep As w)(h:∀W,Sep Cz W->aE P l.toArray Q (fun W=>∃z,Sep (g z) W) is a' W)(hi:Nat.blt i 1000=false:=by rfl)(hl:l.drop (i-1000)=oper::rest:=by rfl)(hs:St P As oper.op a (fun _ _=>Hid True) (fun _ _=>Cz) (fun _ _=>v):=by first
  |exact .call rfl rfl rfl (by(try simp only[MZ,M9,Oz]);rfl) (by infer_instance) (by(try simp only[PS]);try rfl) (by intro w;simp)
  |exact .store rfl rfl rfl (by infer_instance) (by first|exact .cell (by first|rfl|(simp;omega)) (by rfl) (by(try simp only[PT]);rfl) (by rfl)|exact .row rfl rfl (by first|rfl|exact Fct.out) (by rfl)|exact .part rfl (by rfl) (by rfl) (by(try simp only[PT,Ol,N3,List.drop_succ_cons,List.drop_zero,MZ,M9]);rfl) (by rfl)) (by(try simp only[PS]);try rfl)
  |exact .qt (.load rfl rfl (by infer_instance) cj))
 (hz:∃z n,g z=Cz.drop n:=by first|exact Ab.to0 (by infer_instance) (by intro z;(try simp only[PS]);try rfl)|exact⟨_,0,rfl⟩|exact⟨(_,_),0,rfl⟩|exact⟨(_,_,_),0,rfl⟩|exact⟨_,1,rfl⟩|exact⟨(_,_),1,rfl⟩|exact⟨(_,_,_),1,rfl⟩|exact⟨_,2,rfl⟩) (hw:Region.wanted oper (yielded l.toArray a.tmps)=true:=by rfl) (e:a.put oper.dst v=a':=by(try simp only[PT]);try rfl) :
 aE P l.toArray Q (fun W=>∃z,Sep (g z) W) (i::is) a w:=by
 subst e
 refine gB hi hl hw fun K hK=>hs.wp M fun _ _ W _ M'=>?_
 obtain⟨z,n,hz⟩:=hz
 exact hK.out _ _ ⟨z,by rw[hz];exact M'.dr n⟩ fun _=>h W M'
def sb{H:Nat->Nat->Prop}{Bs:Nat->Nat->List Asn}{r:Nat->Nat->Value}{a':Nat->Nat->Act}(M:Sep As w)(h:∀b q W,Sep (Bs b q) W->aE P l.toArray Q (fun W=>∃z,Sep (g z) W) is (a' b q) W)(hi:Nat.blt i 1000=false:=by rfl)(hl:l.drop (i-1000)=oper::rest:=by rfl)(hs:St P As oper.op a H Bs r:=by first
  |exact .alloc rfl rfl (by(try simp only[Value.cells,List.toList_toArray]);rfl)
  |exact .box rfl rfl rfl)
 (hz:∀b q,∃z,g z=(Bs b q).drop 1:=by intro b q;first|exact⟨true,rfl⟩|exact⟨_,rfl⟩|exact⟨(_,_),rfl⟩) (hw:Region.wanted oper (yielded l.toArray a.tmps)=true:=by rfl) (e:∀b q,a.put oper.dst (r b q)=a' b q:=by intro b q;(try simp only[PT]);try rfl) :
 aE P l.toArray Q (fun W=>∃z,Sep (g z) W) (i::is) a w:=by
 refine gB hi hl hw fun K hK=>hs.wp M fun b q W _ M'=>?_
 obtain⟨z,hz⟩:=hz b q
 rw[e]
 exact hK.out _ _ ⟨z,by rw[hz];exact M'.dr 1⟩ fun _=>h b q W M'
def sx{y}{xs:List Operand}{vs us cs:List Value}{ts:Array TypeId}{p:List PanicEntry}(M:Sep As w)(h:∀W,Sep As W->Q (.panic p) a W)(hi:Nat.blt i 1000=false:=by rfl)(hl:l.drop (i-1000)=oper::rest:=by rfl)(ho:oper.op=.call {callee:= .value y,args:=xs.toArray,argTypes:=ts}:=by rfl)(hf:evo a y=some (.func (.func fn) #[] cs.toArray):=by rfl)(hx:evl a xs=some vs:=by rfl)(hv:vs++cs=us:=by(try simp only[MZ,M9,Oz]);rfl)(hC:fC P fn us.toArray As p:=by infer_instance)(hc:∀w,(callFunc fn us.toArray).run P w=.ok (.enter fn us.toArray) w:=by intro w;simp)(hw:Region.wanted oper (yielded l.toArray a.tmps)=true:=by rfl):aE P l.toArray Q (fun W=>∃z,Sep (g z) W) (i::is) a w:=by
 refine gB hi hl hw fun K hK=>?_;have hm:=kd hx;have e1:(execOp a.eval oper).run P w=.ok (.enter fn us.toArray) w:=by
  subst hv;unfold execOp;simp[ho,resolve,hm,bU hf,Deferred.ofValue,invoke,hc,NM,NO]
 unfold Oper.wp;rw[e1,Oper.upon_enter];exact(hC.out w M).mono fun _ W ⟨e,M'⟩=>by subst e;exact h W M'
def st{a'}(M:Sep As w)(h:aE P l.toArray Q (fun W=>∃z,Sep (g z) W) is a' w)(hi:Nat.blt i 1000=false:=by rfl)(hl:l.drop (i-1000)=oper::rest:=by rfl)(hw:Region.wanted oper (yielded l.toArray a.tmps)=false:=by rfl)(hz:∃z,g z=As:=by first|exact Ab.to (by infer_instance) (by intro z;(try simp only[PS]);try rfl)|exact⟨_,rfl⟩|exact⟨(_,_),rfl⟩)(e:a.put oper.dst undef=a':=by(try simp only[PT]);try rfl):aE P l.toArray Q (fun W=>∃z,Sep (g z) W) (i::is) a w:=by
 subst e;obtain⟨z,hz⟩:=hz;exact D2 hi hl hw ⟨z,by rw[hz];exact M⟩ h
def sz{G:Prop}{Cs}{K:World->Prop}(M:Sep As w)(h:∀{W},Sep Cs W->K W)(g:Sep As w->(∀W,Sep Cs W->K W)->G:=by first|exact fun M h=>sq (h _ M)|exact fun M h=>sc M h|exact fun M h=>st M (h _ M)|exact fun M h=>sS (h _ M)|exact fun M h=>sx M h):G:=g M fun _ M=>h M
def sj{G:Prop}{H:Nat->Nat->Prop}{Cs:Nat->Nat->List Asn}{K:Nat->Nat->World->Prop}(M:Sep As w)(h:∀{b q W} {_:H b q},Sep (Cs b q) W->K b q W)(g:Sep As w->(∀b q W,H b q->Sep (Cs b q) W->K b q W)->G:=by first|exact fun M h=>si fun b q H=>h b q _ H M|exact fun M h=>sr M fun b q H=>h b q _ H M|exact fun M h=>sb M fun b q W M=>h b q W ⟨⟩ M):G:=g M fun _ _ _ c M=>@h _ _ _ c M
end
def m7(tm:Array Value):ResultVar->Sem Value
 |.tmp t=>pure (tm.getD t undef)
 |.cell a t=>do loadVar t (<-asAddr (tm.getD a undef))
def sw:List Value->Value
 |[v]=>v
 |vs=> .tuple vs.toArray
inductive R1(P:Program)(As:List Asn)(tm:Array Value):ResultVar->Value->Prop
 |tmp {t:Tmp} {v:Value} (h:tm.getD t undef=v):R1 P As tm (.tmp t) v
 |cell {a:Tmp} {T t:TypeId} {b o i:Nat} {c:List Value} {v:Value} (h:tm.getD a undef=.pointer (some ⟨b,o,none⟩)) (hh:Has As b c t i) (hr:Rd P T c o v):R1 P As tm (.cell a T) v
inductive Rs(P:Program)(As:List Asn)(tm:Array Value):List ResultVar->List Value->Prop
 |nil:Rs P As tm [] []
 |cons {r:ResultVar} {v:Value} {rs:List ResultVar} {vs:List Value} (h:R1 P As tm r v) (k:Rs P As tm rs vs):Rs P As tm (r::rs) (v::vs)
def g9{P}{As}{tm}{r:ResultVar}{v:Value}(h:R1 P As tm r v:=by first|exact .tmp rfl|exact .cell rfl (by infer_instance) cj):R1 P As tm r v:=h
def Ej{P}{As}{tm}{w}(M:Sep As w){rs:List ResultVar}{vs}(h:Rs P As tm rs vs):(rs.mapM (m7 tm)).run P w=.ok vs w:=by
 induction h with
 |nil=>rfl
 | @cons r v rs vs h k ih=>
  have e:(m7 tm r).run P w=.ok v w:=by
   cases h with
   |tmp h=>rw[m7,h];rfl
   |cell h hh hr=>
    have:=lj (P:=P) (ai (M.blk hh)) hr (Nm _).symm
    simpa[Instr.loadAt,Instr.sureAddr,m7,h,asAddr,NM,NN]using this
  rw[List.mapM_cons,NM,e,NO,NM,ih]
  rfl
def wH{P}{As}{tm}{w}{fn:Func}(M:Sep As w){vs}(h:Rs P As tm fn.results.toList vs):(results fn tm).run P w=.ok (sw vs) w:=by
 have e:results fn tm=(do let vs <-fn.results.mapM (m7 tm);pure (if h:vs.size=1 then vs[0]else .tuple vs)):=rfl;rw[e,Array.mapM_eq_mapM_toList,NM];have:=Ej M h;rw[map_eq_pure_bind,NM,this,NO];match vs with
 |[]=>rfl
 |[_]=>rfl
 |_::_::_=>rfl
def mr{P}{As}{a:Act}{w}{fn:Func}{R:Ending->World->Prop}{vs}(M:Sep As w)(h:R (.returned (sw vs)) w)(hr:Rs P As a.tmps fn.results.toList vs:=by first|exact .nil|exact .cons g9 (by first|exact .nil|exact .cons g9 (by first|exact .nil|exact .cons g9 (by first|exact .nil|exact .cons g9 (by first|exact .nil|exact .cons g9 (by exact .nil))))))(hd:a.defers=[]:=by rfl):bodyPost P fn R .ret a w:=
 bodyPost_ret (wH M hr) hd h
section
variable {As:List Asn} {w:World}
def Sep.w1(_:Sep As w)(i:Nat)(c:List Value)(W:World):Prop:=Sep (upC As i c) W
def Sep.w2(_:Sep As w)(i:Nat)(c:List Value)(j:Nat)(d:List Value)(W:World):Prop:=Sep (upC (upC As i c) j d) W
def Sep.r1(_:Sep As w)(i:Nat)(v:Value)(L:List (List Value))(W:World):Prop:=Sep (upR As i v L) W
def Sep.w0(_:Sep As w)(W:World):Prop:=Sep As W
def Sep.h1{A:Asn}(_:Sep (A::As) w)(Bs:List Asn)(W:World):Prop:=Sep (A::Bs) W
def Sep.h2{A B:Asn}(_:Sep (A::B::As) w)(Bs:List Asn)(W:World):Prop:=Sep (A::B::Bs) W
end
def Ek(a:Array Obj)(x y:Obj):(a.push x).setIfInBounds a.size y=a.push y:=by
 apply Array.ext
 ·simp
 ·intro i h1 h2;have h3:i<a.size+1:=by simpa using h2
  rw[Array.getElem_setIfInBounds (by simpa using h2),Array.getElem_push];by_cases e:i<a.size
  ·rw[if_neg (by omega),Array.getElem_push];simp[e]
  ·have e2:a.size=i:=by omega
   subst e2;simp
def El{P:Program}(mty kt et)(k:IntKind)(hm:P.underlying mty=some (.map kt et))(hk:P.underlying kt=some (.int k))(w:World)(es:Array MapEntry)(ab:Nat)(x:Int)(v)(hf:Instr.findNow (.int k) (.int k x) es.toList 0=some none) :(Instr.mapUpdate mty (.map (some w.heap.size)) (.int k x) v).run P (w.alloc (.map es ab))=.ok () (w.alloc (.map (es.push {key:= .int k x,val:=v,born:=ab}) (ab+1))):=by
 have hb:(w.alloc (.map es ab)).heap[w.heap.size]? = some (.map es ab):=N8 w _;have hc:(Instr.checkKey false 10000 kt (.int k x)).run P (w.alloc (.map es ab))=.ok () (w.alloc (.map es ab)):=MapKept.run_checkKey (k:= .int k x) hk (by simp[MapKept.IsKey]) false 9999;simp[Instr.mapUpdate,run_underlying hm,MapKept.run_getObj_map hb,hc,MapKept.run_findKey hk hf,MapKept.run_setObj_map _ hb,Result.andThen];exact congrArg (fun h=>({w with heap:=h}:World)) (Ek _ _ _)
def Em{P:Program}(mty kt et)(k:IntKind)(hm:P.underlying mty=some (.map kt et))(hk:P.underlying kt=some (.int k))(w:World)(r:Nat)(es:Array MapEntry)(ab i:Nat)(x:Int)(v)(hb:w.heap[r]? = some (.map es ab))(hf:Instr.findNow (.int k) (.int k x) es.toList 0=some (some (i,v))) :(Instr.lookup mty (.map (some r)) (.int k x) false).run P w=.ok v w:=by
 have hc:∀b,(Instr.checkKey b 10000 kt (.int k x)).run P w=.ok () w:=fun b=>MapKept.run_checkKey (k:= .int k x) hk (by simp[MapKept.IsKey]) b 9999;simp[Instr.lookup,run_underlying hm,MapKept.run_getObj_map hb,hc,MapKept.run_findKey hk hf,Result.andThen]
def sy:Obj:= .map #[{key:= .int .u8 43,val:= .func (.func 106) #[] #[],born:=0},{key:= .int .u8 45,val:= .func (.func 108) #[] #[],born:=1},{key:= .int .u8 42,val:= .func (.func 110) #[] #[],born:=2},{key:= .int .u8 47,val:= .func (.func 112) #[] #[],born:=3}] 4
def En(w):Calls prog 57 #[] w fun e w'=>e=.returned (.map (some w.heap.size))/\w'=w.alloc sy:=by
 have ac:=@run_makeMap prog;have hi:=fun es ab x v=>El (P:=prog) 126 5 125 .u8 underlying126 underlying5 w es ab x v;have h1:=hi #[] 0 43 (.func (.func 106) #[] #[]) rfl;have h2:=hi #[{key:= .int .u8 43,val:= .func (.func 106) #[] #[],born:=0}] 1 45 (.func (.func 108) #[] #[]) rfl;have h3:=hi #[{key:= .int .u8 43,val:= .func (.func 106) #[] #[],born:=0},{key:= .int .u8 45,val:= .func (.func 108) #[] #[],born:=1}] 2 42 (.func (.func 110) #[] #[]) rfl;have h4:=hi #[{key:= .int .u8 43,val:= .func (.func 106) #[] #[],born:=0},{key:= .int .u8 45,val:= .func (.func 108) #[] #[],born:=1},{key:= .int .u8 42,val:= .func (.func 110) #[] #[],born:=2}] 3 47 (.func (.func 112) #[] #[]) rfl;clear hi;go_enter func57,ntmps57;go_wp2;go_ret;exact⟨rfl,rfl⟩
def pu{w:World}{b:Nat}{cs}{t}(h:w.heap[b]? = some (.cells cs t (0,0)))(i:Nat)(v)(hv:cs[i]? = some v):w.cell? ⟨b,i,none⟩=some v/\w.frozen? ⟨b,i,none⟩=false:=by
 simp[World.cell?,World.frozen?,h,hv]
def Eo(br be:Nat)(k:Int)(a0 a1 a2 a3)(w:World)(hr:w.heap[br]? = some (.cells #[a0,a1,a2] 37 (0,0)))(he:w.heap[be]? = some (.cells #[a3] 41 (0,0)))(al:br≠be) :CallsD prog 56 #[.pointer br,.pointer be] (.panicking (fX k)) w fun e u' w'=>e=.returned (.tuple #[])/\u'=.panicking [{v:= .iface 183 (.agg #[.int .i64 k]),recovered:=true}]/\∃w1,eB w w1/\w'=(((w1.setCell ⟨br,0,none⟩ (.bool false)).setCell ⟨br,1,none⟩ (.string ⟨#[]⟩)).setCell ⟨br,2,none⟩ (.string ⟨#[]⟩)).setCell ⟨be,0,none⟩ (.int .i64 k):=by
 refine callsD_of_wpS func56 rfl fun c₀ cs hu=>?_;unfold fX at hu;apply wpS_seq;apply wpS_region;simp[wpOpsS,go_sem,recoverD,hu,ntmps56,Exit.thenS];refine wpS_of_wp ?_;simp only[NZ,N0,N1,N2,M9,MZ,NY,OB,OC];go_wp2_with fail;refine(wy k _).mono ?_;rintro e w1 ⟨rfl,ab⟩;have ac:=(ab.block br (NX.1 hr).1).trans hr;have ad:=(ab.block be (NX.1 he).1).trans he;have ag:=MY ab;obtain⟨q0,f0⟩:=pu ac 0 a0 rfl;obtain⟨q1,f1⟩:=pu ac 1 a1 rfl;obtain⟨q2,f2⟩:=pu ac 2 a2 rfl;obtain⟨q3,f3⟩:=pu ad 0 a3 rfl;have an:¬be=br:=fun e=>al e.symm;clear ac ad ab hr he hu;go_wp2;simp[bodyPostS,results,results56];exact⟨w1,ag.out,rfl⟩
def Ep(br be:Nat)(w) :CallsD prog 56 #[.pointer br,.pointer be] .returning w fun e u' w'=>e=.returned (.tuple #[])/\u'=.returning/\w'=w:=by
 refine callsD_of_wpS func56 rfl fun c₀ cs hu=>?_;apply wpS_seq;apply wpS_region;simp[wpOpsS,go_sem,recoverD,hu,ntmps56,Exit.thenS];refine wpS_of_wp ?_;simp only[NZ,N0,N1,N2,M9,MZ,NY,OB,OC];go_wp2
 cases c₀;simp_all [bodyPostS,results,results56]
def dO(Q:Exit->Act->World->Prop)(i j:Nat)(x y:Value)(D:List Deferred)(G:List PanicEntry->World->Prop):Exit->Act->World->Prop
 |.panic c,a,w=>a.defers=D/\a.tmps.getD i undef=x/\a.tmps.getD j undef=y/\G c w
 |e,a,w=>Q e a w
def wI(a:Act)(dst:Option Tmp)(v)(i:Nat)(h:dst≠some i):(a.put dst v).tmps.getD i undef=a.tmps.getD i undef:=by
 cases dst with
 |none=>rfl
 |some d=>
  have:d≠i:=fun e=>h (by rw[e])
  simp[Act.put,Ow,OD this]
def Er(a:Act)(dst:Option Tmp)(v):(a.put dst v).defers=a.defers:=by cases dst <;> rfl
def dO.put{Q}{i j:Nat}{x y}{D:List Deferred}{G:List PanicEntry->World->Prop}{dst:Option Tmp}{v}(h1:dst≠some i)(h2:dst≠some j)(c:List PanicEntry)(a:Act)(w)(h:dO Q i j x y D G (.panic c) (a.put dst v) w):dO Q i j x y D G (.panic c) a w:=by
 obtain⟨e1,e2,e3,e4⟩:=h;rw[wI _ _ _ _ h1]at e2;rw[wI _ _ _ _ h2]at e3;rw[Er]at e1;exact⟨e1,e2,e3,e4⟩
def dO.normal{Q}{i j:Nat}{x y}{D:List Deferred}{G:List PanicEntry->World->Prop}{a}{w}(h:Q .normal a w):dO Q i j x y D G .normal a w:=h
def sA{P}{id:Nat}{ops}{b:Bool}{Q}{a}{w}(i j:Nat)(x y)(D:List Deferred)(G:List PanicEntry->World->Prop)(hG:∀c a w,a.defers=D->a.tmps.getD i undef=x->a.tmps.getD j undef=y->G c w->Q (.panic c) a w)(h:(Code.region id ops b).wp P (dO Q i j x y D G) a w):(Code.region id ops b).wp P Q a w:=
 Code.wp_mono (fun e a w hq=>by
  cases e with
  |panic c=>exact hG c a w hq.1 hq.2.1 hq.2.2.1 hq.2.2.2
  |_=>exact hq) h
def car(V U k:Nat):Nat:=if 18446744073709551616^k<=V%18446744073709551616^k+U%18446744073709551616^k then 1 else 0
def Et(V U:Nat):car V U 0=0:=by simp[car,Nat.mod_one]
def Eu(V U k:Nat):car V U k<=1:=by unfold car;split <;> omega
def Ev(V U k:Nat):(word V k+word U k+car V U k)%18446744073709551616=word (V+U) k:=by
 have hp:=ft k;have e1:=Nr V (18446744073709551616^k);have e2:=Nr U (18446744073709551616^k);have l1:=Ni V hp;have l2:=Ni U hp;unfold car word;generalize 18446744073709551616^k=P at *;generalize V%P=a at *;generalize U%P=b at *;have hd:(V+U)/P=V/P+U/P+(if P<=a+b then 1 else 0):=by
  generalize V/P=x at *;generalize U/P=y at *;split
  ·rename_i h;rw[show V+U=(a+b-P)+P*(x+y+1) by rw[Nat.mul_add,Nat.mul_add];omega,Nat.add_mul_div_left _ _ hp,Nj (by omega)];omega
  ·rw[show V+U=(a+b)+P*(x+y) by rw[Nat.mul_add];omega,Nat.add_mul_div_left _ _ hp,Nj (by omega)];omega
 rw[hd];omega
def Ew(V U k:Nat):(word V k+word U k+car V U k)/18446744073709551616=car V U (k+1):=by
 have hp:=ft k;have l1:=Ni V hp;have l2:=Ni U hp;have w1:=dD V k;have w2:=dD U k;have m1:V%18446744073709551616^(k+1)=V%18446744073709551616^k+18446744073709551616^k*word V k:=by rw[M7,Nat.mod_mul];rfl
 have m2:U%18446744073709551616^(k+1)=U%18446744073709551616^k+18446744073709551616^k*word U k:=by rw[M7,Nat.mod_mul];rfl
 unfold car;rw[m1,m2,M7];generalize 18446744073709551616^k=P at *;generalize V%P=a at *;generalize U%P=b at *;generalize word V k=v at *;generalize word U k=u at *;have key:∀s:Nat,(P*18446744073709551616<=a+P*v+(b+P*u))<->(P*18446744073709551616<=(a+b)+P*(v+u)):=fun s=>by rw[Nat.mul_add];omega
 by_cases h:P<=a+b
 ·rw[if_pos h];by_cases h2:18446744073709551616<=v+u+1
  ·have:P*18446744073709551616<=P*(v+u+1):=Nw _ h2;rw[Nat.mul_add]at this;rw[if_pos ((key 0).2 (by omega))];omega
  ·have:P*(v+u+2)<=P*18446744073709551616:=Nw _ (by omega);rw[Nat.mul_add]at this;rw[if_neg (fun h3=>by have:=(key 0).1 h3;omega)];omega
 ·rw[if_neg h];by_cases h2:18446744073709551616<=v+u
  ·have:P*18446744073709551616<=P*(v+u):=Nw _ h2;rw[if_pos ((key 0).2 (by omega))];omega
  ·have:P*(v+u+1)<=P*18446744073709551616:=Nw _ (by omega);rw[Nat.mul_add]at this;rw[if_neg (fun h3=>by have:=(key 0).1 h3;omega)];omega
def Ex(b b' n m N c c' V U:Nat)(w:World)(hV:V<18446744073709551616^n)(hU:U<18446744073709551616^m)(hn:n<=65536)(hm:m<=65536)(hN:max n m=N)(hb:b<w.heap.size)(hb':b'<w.heap.size)(h:Wds w b n V)(h':Wds w b' m U) :Calls prog 144 #[.slice b n c,.slice b' m c'] w fun e w'=>e=.returned (.slice w.heap.size (N+1) (N+1))/\Row w' w.heap.size (N+1) (word (V+U))/\eB w w'/\w'.heap.size=w.heap.size+1:=by
 have HV:=MY hV;have HU:=MY hU;have H:=MY h;have H':=MY h';have ax:max (n:Int) (m:Int)=(N:Int):=by omega
 have aA:N<=65536:=by omega
 have bc:∀W:World,(Instr.makeSlice 114 (.int .i64 ((N:Int)+1)) (.int .i64 ((N:Int)+1))).run prog W=.ok (.slice W.heap.size (N+1) (N+1)) (W.alloc (.cells (madeCells #[.int .u64 0] (N+1)) 174)):=by
  intro W;exact jV (N+1) (by omega) W
 go_enter func144,ntmps144;go_wp2;go_loopw [6,17] (fun bo i wr=>∃k:Nat,k<=N+1/\i=.int .i64 k/\bo=.int .u64 (car V U k:Int)/\Row wr w.heap.size (N+1) (mix k (word (V+U)) (fun _=>0))/\eB w wr/\wr.heap.size=w.heap.size+1) (fun _ i _=>N+1-(intOf i).toNat)
 case atStart=>
  refine⟨0,Nu _,rfl,by rw[Et];rfl,(Row.of_rowIs (f:=fun _=>0) (World.rowIs_made w _ _ _)).congr (fun i _=>by simp[mix]),(NB _ _).alloc (No _) _,by simp⟩
 case round=>
  obtain⟨k,hk,rfl,rfl,ad,ab,av⟩:=hrel;have HR:=MY ad;have HB:=MY ab;have HS:=MY av;by_cases bb:k<N+1
  ·have ac:=Eu V U k;have ag:=Row.cell HR.out (i:=k) (by omega);have ba:=Row.frozen HR.out k;have al:=MY (fun W (hW:Wds W b n V)=>rO b n c k V W HV.out hW);have an:=MY (fun W (hW:Wds W b' m U)=>rO b' m c' k U W HU.out hW);have hs:=fun W=>vR (word V k) (word U k) (car V U k) ac W;rw[Ev,Ew]at hs;have ao:Hid (Wds wr b n V):=fun j hj=>(HB.cell (p:=⟨b,j,none⟩) hb).trans (H.out j hj);have ar:Hid (Wds wr b' m U):=fun j hj=>(HB.cell (p:=⟨b',j,none⟩) hb').trans (H'.out j hj);go_wp2_with fail;refine(al.out _ ao.out).mono ?_;rintro e w1 ⟨rfl,rfl⟩;go_wp2_with fail;refine(an.out _ ar.out).mono ?_;rintro e w1 ⟨rfl,rfl⟩;go_wp2;go_roundw
   case rel=>
    refine⟨k+1,by omega,by go_num,rfl,?_,HB.setCell (No _) _,?_⟩
    ·refine(HR.set k _ rfl).congr fun i _=>?_;by_cases e:i=k
     ·rw[if_pos e,e];simp[mix]
     ·rw[if_neg e];have:(i<k+1)=(i<k):=by apply propext;omega
      simp[mix,this]
    ·have:=HS.out;simpa[World.setCell]using this
   case measure=>simp[intOf];omega
  ·obtain rfl:k=N+1:=by omega
   go_wp2;go_ret;exact⟨rfl,HR.congr (fun i hi=>by simp[mix,hi]),HB.out,HS.out⟩
def Ey(a b)(w)(ha:cF a)(hb:cF b) :Calls prog 104 #[.string a,.string b] w (Ret w (jq (bv a+bv b))):=by
 have ab:chk (fun j=>if j=0 then a else b) 2=0:=jp (fun j _=>by split <;> assumption);have HC:=MY (jZ w.heap.size 2 2 (fun j=>if j=0 then a else b) (w.alloc (.cells #[.string a,.string b] 9)) (by omega) (lf w a b 9));rw[ab]at HC;have la:=ha.2;have lb:=hb.2;have ba:=MY (fA ha.1);have bb:=MY (fA hb.1);have bh:=MY ((NB w.heap.size w).alloc (No _) (.cells #[.string a,.string b] 9));clear ab ha hb;obtain⟨N,hN⟩:=nm (max ((a.size+7)/8) ((b.size+7)/8));have HN:=MY hN;have bs:N<=65535:=by omega
 have al:Hid (bv a+bv b<18446744073709551616^(N+1)):=by
  have h1:=Nf ba.1 (Ng (n:=18446744073709551616) (by omega) (show(a.size+7)/8<=N by omega));have h2:=Nf bb.1 (Ng (n:=18446744073709551616) (by omega) (show(b.size+7)/8<=N by omega));show _<_;rw[M7];generalize 18446744073709551616^N=P at *;omega
 clear hN;by_cases bg:bv a+bv b<256^256;all_goals
  have aA:=MY bg
  have ac:(if bv a+bv b<256^256 then Value.tuple #[.string ⟨(benc (bv a+bv b)).toArray⟩,.int .i64 0]else .tuple #[.string ⟨#[]⟩,.int .i64 2])=jq (bv a+bv b):=rfl
  have an:=MY ac
  clear bg ac
  go_enter func104,ntmps104
  go_wp2_with fail
  refine HC.mono ?_
  rintro e w1 ⟨rfl,rfl⟩
  go_wp2_with fail
  refine(fy a _ (by omega)).mono ?_
  rintro e w1 ⟨rfl,ad,bc,be⟩
  rw[NU]at ad be⊢
  have bn:=MY ad
  have bi:=MY (bh.trans (bc.mono (by simp)))
  have h1:w.heap.size+1<w1.heap.size:=ad.lt
  clear ad bc be
  go_wp2_with fail
  refine(fy b _ (by omega)).mono ?_
  rintro e w2 ⟨rfl,av,ao,bp⟩
  have ag:=MY (bn.below ao h1)
  have bo:=MY av
  have bk:=MY (bi.trans (ao.mono (by omega)))
  have h2:w1.heap.size<w2.heap.size:=av.lt
  clear av ao bp
  go_wp2_with fail
  refine(Ex (w.heap.size+1) w1.heap.size ((a.size+7)/8) ((b.size+7)/8) N ((a.size+7)/8) ((b.size+7)/8) (bv a) (bv b) w2 ba.1 bb.1 (by omega) (by omega) HN.out (by omega) (by omega) ag.wds bo.wds).mono ?_
  rintro e w3 ⟨rfl,ax,ar,br⟩
  have bl:=MY (bk.trans (ar.mono (by omega)))
  have bt:=ar.size
  have HX:=MY (vQ w2.heap.size (N+1) (N+1) (bv a+bv b) w3 al.out (by omega) ax.lt ax.wds)
  clear ar ax br
  go_wp2_with fail
  refine HX.mono ?_
  first|rw[if_pos aA.out]at * | rw[if_neg aA.out]at *
  rintro e w4 ⟨rfl,bd⟩
  have bm:=MY (bl.trans (bd.mono (by omega)))
  clear bd
  go_wp2
  go_ret2
  exact⟨by rw[<-an.out];rfl,bm.out⟩
def wM{B:Nat}{a w}(h:Below B a w)(n:Nat):Below B a (w.drewN n):=⟨h.os,h.tape,h.output,h.size,h.block⟩
def Ez(a b)(w)(ha:cF a)(hb:cF b) :Calls prog 215 #[.string a,.string b] w (Ret w (.tuple #[.int .i64 (cmpN (bv a) (bv b)),.int .i64 0])):=by
 have ab:chk (fun j=>if j=0 then a else b) 2=0:=jp (fun j _=>by split <;> assumption);have HC:=MY (jZ w.heap.size 2 2 (fun j=>if j=0 then a else b) (w.alloc (.cells #[.string a,.string b] 9)) (by omega) (lf w a b 9));rw[ab]at HC;have la:=ha.2;have lb:=hb.2;have bb:=MY (fA ha.1);have bc:=MY (fA hb.1);have ar:=MY ((NB w.heap.size w).alloc (No _) (.cells #[.string a,.string b] 9));clear ab ha hb;go_enter func215,ntmps215;go_wp2_with fail;refine HC.mono ?_;rintro e w1 ⟨rfl,rfl⟩;go_wp2_with fail;refine(fy a _ (by omega)).mono ?_;rintro e w1 ⟨rfl,ac,al,ao⟩;rw[NU]at ac ao⊢;have aA:=MY ac;have av:=MY (ar.trans (al.mono (by simp)));have h1:w.heap.size+1<w1.heap.size:=ac.lt;clear ac al ao;go_wp2_with fail;refine(fy b _ (by omega)).mono ?_;rintro e w2 ⟨rfl,an,ag,bd⟩;have ad:=MY (aA.below ag h1);have ba:=MY an;have ax:=MY (av.trans (ag.mono (by omega)));clear an ag bd;go_wp2_with fail;refine(jX (w.heap.size+1) w1.heap.size ((a.size+7)/8) ((b.size+7)/8) ((a.size+7)/8) ((b.size+7)/8) (bv a) (bv b) w2 bb.out bc.out (by omega) (by omega) ad.wds ba.wds).mono ?_;rintro e w3 ⟨rfl,q,rfl⟩;go_wp2;go_ret2;exact⟨rfl,wM ax.out q⟩
def EA(a b)(w)(ha:cF a)(hb:cF b)(bg:bv b<=bv a) :Calls prog 154 #[.string a,.string b] w (Ret w (.tuple #[.string (bs (bv a-bv b)),.int .i64 0])):=by
 have ac:chk (fun j=>if j=0 then a else b) 2=0:=jp (fun j _=>by split <;> assumption);have HC:=MY (jZ w.heap.size 2 2 (fun j=>if j=0 then a else b) (w.alloc (.cells #[.string a,.string b] 9)) (by omega) (lf w a b 9));rw[ac]at HC;have la:=ha.2;have lb:=hb.2;have ag:=MY (fA ha.1);have bb:=MY (fA hb.1);have bk:=MY ((NB w.heap.size w).alloc (No _) (.cells #[.string a,.string b] 9));have hc:decide (cmpN (bv a) (bv b)<0)=false:=by
  unfold cmpN;rw[if_neg (by omega)];split <;> rfl
 have aA:=MY hc;have bo:=MY bg;clear ac ha hb hc bg;obtain⟨cm,an⟩:=nm (cmpN (bv a) (bv b));have bn:=MY an;rw[an]at aA;clear an;go_enter func154,ntmps154;go_wp2_with fail;refine HC.mono ?_;rintro e w1 ⟨rfl,rfl⟩;go_wp2_with fail;refine(fy a _ (by omega)).mono ?_;rintro e w1 ⟨rfl,ad,bc,bi⟩;rw[NU]at ad bi⊢;have bp:=MY ad;have bl:=MY (bk.trans (bc.mono (by simp)));have h1:w.heap.size+1<w1.heap.size:=ad.lt;clear ad bc bi;go_wp2_with fail;refine(fy b _ (by omega)).mono ?_;rintro e w2 ⟨rfl,bh,al,br⟩;have ab:=MY (bp.below al h1);have ba:=MY bh;have av:=MY (bl.trans (al.mono (by omega)));clear bh al br;go_wp2_with fail;refine(jX (w.heap.size+1) w1.heap.size ((a.size+7)/8) ((b.size+7)/8) ((a.size+7)/8) ((b.size+7)/8) (bv a) (bv b) w2 ag.out bb.out (by omega) (by omega) ab.wds ba.wds).mono ?_;rintro e w3 ⟨rfl,q,rfl⟩;rw[bn.out];have ao:=aA.out;go_wp2_with fail;clear ao;refine(oR (w.heap.size+1) w1.heap.size ((a.size+7)/8) ((a.size+7)/8) ((b.size+7)/8) ((a.size+7)/8) ((b.size+7)/8) (bv a) (bv b) (word (bv a)) _ bb.1 ag.1 bo.out (fun _ _=>rfl) (No _) (by omega) (by omega) (ab.drewN q) (ba.drewN q).wds).mono ?_;rintro e w4 ⟨rfl,ar,be,bt⟩;have ax:=MY ((wM av.out q).grown be (by have:=av.size;simpa using this) (fun k e=>by cases e;omega))
 have HX:=MY (mM (w.heap.size+1) ((a.size+7)/8) ((a.size+7)/8) (bv a-bv b) w4 (Nt (Nat.sub_le _ _) ag.1) (by omega) ar.lt ((ar.congr (fun i hi=>by simp[mix,hi])).wds));clear ar be bt;go_wp2_with fail;refine HX.mono ?_;rintro e w5 ⟨rfl,bd⟩;have bm:=MY (ax.trans (bd.mono ax.size));clear bd;go_wp2;go_ret2;exact⟨rfl,bm.out⟩
@[reducible] def rtC(y:Rt):List Value:=[.bool y.neg,.string (bs y.n),.string (bs y.d)]
def lm(n:Nat)(h:¬n<LIM):jq n=.tuple #[.string ⟨#[]⟩,.int .i64 2]:=if_neg h
def ke(n:Nat)(h:n<LIM):jq n=.tuple #[.string (bs n),.int .i64 0]:=if_pos h
def gD(f:FuncId)(args:Array Value)(r:Option (Bool×Nat×Nat)):Prop:=
 ∀w,Calls prog f args w fun e W=>(match r with|some (g,n,d)=>e=.returned (.agg #[.bool g,.string (bs n),.string (bs d)])|none=>e=.panicked (fX 2))/\eB w W
section
variable {As:List Asn} {x y x' y':Nat} {an bn:Bool} {s d:ByteArray} {f:FuncId} {args:Array Value}
theorem gD.con{g:Bool}{n d:Nat}(h:gD f args (some (g,n,d))):aB prog f args As (.agg #[.bool g,.string (bs n),.string (bs d)]):=⟨fun w _=>h w⟩
theorem gD.no(h:gD f args none):fC prog f args As (fX 2):=⟨fun w M=>(h w).mono fun _ _ ⟨e,hb⟩=>⟨e,M.ext hb⟩⟩
instance must_con:aB prog 102 #[.string s,.int .i64 0] As (.string s):=⟨fun w _=>(o8 s w).mono fun _ _ ⟨e,h⟩=>⟨e,h▸NB _ _⟩⟩
instance must_non:fC prog 102 #[.string s,.int .i64 2] As (fX 2):=⟨fun w M=>(DP s 2 (by decide) w).mono fun _ _ ⟨e,h⟩=>⟨e,h▸M⟩⟩
variable [hx:Fct (x<LIM)] [hy:Fct (y<LIM)]
instance nmul_con:aB prog 152 #[.string (bs x),.string (bs y)] As (jq (x*y)):=⟨fun w _=>by simpa only[aU]using Dc (bs x) (bs y) w (da hx.out) (da hy.out)⟩
instance nadd_con:aB prog 104 #[.string (bs x),.string (bs y)] As (jq (x+y)):=⟨fun w _=>by simpa only[aU]using Ey (bs x) (bs y) w (da hx.out) (da hy.out)⟩
instance nsub_con[h:Fct (y<=x)]:aB prog 154 #[.string (bs x),.string (bs y)] As (.tuple #[.string (bs (x-y)),.int .i64 0]):=⟨fun w _=>by simpa only[aU]using EA (bs x) (bs y) w (da hx.out) (da hy.out) (by simpa only[aU]using h.out)⟩
instance ncmp_con:aB prog 215 #[.string (bs x),.string (bs y)] As (.tuple #[.int .i64 (cmpN x y),.int .i64 0]):=⟨fun w _=>by simpa only[aU]using Ez (bs x) (bs y) w (da hx.out) (da hy.out)⟩
instance sign_con:aB prog 153 #[.string (bs x),.string (bs y)] As (.int .i64 (cmpN x y)):=⟨fun w _=>by
 have M:=Sep.new w;go_enter func153,ntmps153;go_wp2_with refine mz M fun M=>?_;exact mr M ⟨rfl,M.bel⟩⟩
instance negative_con:aB prog 109 #[.agg #[.bool an,.string (bs x),.string d]] As (.agg #[.bool (iS an x),.string (bs x),.string d]):=⟨fun w _=>by
 have M:=Sep.new w;have e:=iN x
 cases h:x==0;all_goals
  rw[h]at e
  cases an
  all_goals
   go_enter func109,ntmps109
   go_wp2_with refine mz M fun M=>?_
   refine mr M ⟨?_,M.bel⟩
   simp[iS,bne,h]
   try rfl⟩
instance inverse_con:aB prog 113 #[.agg #[.bool an,.string s,.string d]] As (.agg #[.bool an,.string d,.string s]):=⟨fun w _=>DQ an s d w⟩
variable [hx':Fct (x'<LIM)] [hy':Fct (y'<LIM)]
instance crossed_con[h1:Fct (x*y'<LIM)][h2:Fct (x'*y<LIM)]:aB prog 151 #[.agg #[.bool an,.string (bs x),.string (bs y)],.agg #[.bool bn,.string (bs x'),.string (bs y')]] As (.tuple #[.string (bs (x*y')),.string (bs (x'*y))]):=⟨fun w _=>by
 have M:=Sep.new w;have e1:=ke _ h1.out;have e2:=ke _ h2.out;go_enter func151,ntmps151;go_wp2_with refine mz M fun M=>?_;refine mg M [0,1,2,3,8,9,10,11,1004,5,6,1007,1012,13,14,1015,16,17] fun _ M=>?_;repeat(first|refine sz M fun M=>?_|refine sj M fun M=>?_|refine sQ ?_)
 try refine aj ?_
 go_wp2_with refine mz M fun M=>?_;exact mr M ⟨rfl,M.bel⟩⟩
instance crossed_no[h:Fct (¬(x*y'<LIM/\x'*y<LIM))]:fC prog 151 #[.agg #[.bool an,.string (bs x),.string (bs y)],.agg #[.bool bn,.string (bs x'),.string (bs y')]] As (fX 2):=⟨fun w M0=>by
 have M:=Sep.new w;by_cases h1:x*y'<LIM
 case' neg=>have e1:=lm _ h1
 case' pos=>
  have e1:=ke _ h1;have e2:=lm _ fun h2=>h.out ⟨h1,h2⟩
 all_goals
  go_enter func151,ntmps151
  go_wp2_with refine mz M fun M=>?_
  refine mg M [0,1,2,3,8,9,10,11,1004,5,6,1007,1012,13,14,1015,16,17] fun _ M=>?_
  repeat(first|refine sz M fun M=>?_|refine sj M fun M=>?_|refine sQ ?_)
  try refine aj ?_
  exact⟨rfl,rfl,M0.ext M.bel⟩⟩
include hx hy hx' hy' in
def wN:gD 111 #[.agg #[.bool an,.string (bs x),.string (bs y)],.agg #[.bool bn,.string (bs x'),.string (bs y')]] (timesN an x y bn x' y'):=fun w=>by
 have M:=Sep.new w;unfold timesN;by_cases h1:x*x'<LIM
 case' neg=>
  have e1:=lm _ h1;rw[if_neg fun h=>h1 h.1]
 case' pos=>
  have e1:=ke _ h1;by_cases h2:y*y'<LIM
  case' neg=>
   have e2:=lm _ h2;rw[if_neg fun h=>h2 h.2]
  case' pos=>
   have e2:=ke _ h2;rw[if_pos ⟨h1,h2⟩]
 all_goals
  go_enter func111,ntmps111
  go_wp2_with refine mz M fun M=>?_
  refine mg1 M 0 [0,1,2,3,4,5,6,7,8,13,14,15,16,1009,10,11,1012,1017,18,19,1020,21,1022] fun _ M=>?_
  repeat(first|refine sz M fun M=>?_|refine sj M fun M=>?_|refine sQ ?_)
  try refine aj ?_
  first
  |exact⟨rfl,rfl,M.bel⟩
  |skip
 go_wp2_with refine mz M fun M=>?_;exact mr M ⟨rfl,M.bel⟩
include hx hy hx' hy' in
def wO:gD 107 #[.agg #[.bool an,.string (bs x),.string (bs y)],.agg #[.bool bn,.string (bs x'),.string (bs y')]] (plusN an x y bn x' y'):=fun w=>by
 have M:=Sep.new w;by_cases hc:x*y'<LIM/\x'*y<LIM
 case neg=>
  haveI:=Fct.mk hc;rw[show plusN an x y bn x' y'=none from if_neg fun h=>hc ⟨h.1,h.2.1⟩];go_enter func107,ntmps107;go_wp2_with refine mz M fun M=>?_;exact mx M fun _ M=>⟨rfl,rfl,M.bel⟩
 haveI:=Fct.mk hc.1;haveI:=Fct.mk hc.2;by_cases hd:y*y'<LIM
 case neg=>
  have e0:=lm _ hd;rw[show plusN an x y bn x' y'=none from if_neg fun h=>hd h.2.2];go_enter func107,ntmps107;go_wp2_with refine mz M fun M=>?_;exact mx M fun _ M=>⟨rfl,rfl,M.bel⟩
 have e0:=ke _ hd;have e:plusN an x y bn x' y'=if an=bn then(if x*y'+x'*y<LIM then some (an,x*y'+x'*y,y*y')else none)else if x*y'<x'*y then some (bn,x'*y-x*y',y*y')else some (an,x*y'-x'*y,y*y'):=if_pos ⟨hc.1,hc.2,hd⟩;rw[e];clear e hc hd;by_cases hg:an=bn
 case' neg=>
  rw[if_neg hg];by_cases h3:x*y'<x'*y
  case' pos=>
   haveI:=Fct.mk (NS h3);have e3:decide (cmpN (x*y') (x'*y)<0)=true:=by rw[iK h3];rfl
   rw[if_pos h3]
   cases an <;> cases bn <;> first|exact absurd rfl hg|skip
  case' neg=>
   haveI:=Fct.mk (Nat.le_of_not_lt h3);have e3:decide (cmpN (x*y') (x'*y)<0)=false:=by unfold cmpN;rw[if_neg h3];split <;> rfl
   rw[if_neg h3]
   cases an <;> cases bn <;> first|exact absurd rfl hg|skip
 case' pos=>
  subst hg;rw[if_pos rfl];by_cases h3:x*y'+x'*y<LIM
  case' pos=>
   have e3:=ke _ h3;rw[if_pos h3]
   cases an
  case' neg=>
   have e3:=lm _ h3;rw[if_neg h3]
   cases an
 all_goals
  clear h3
  try clear hg
  go_enter func107,ntmps107
  go_wp2_with refine mz M fun M=>?_
  refine mg1 M 0 [0,1,2,3,8,1004,5,6,1007,9,1010] fun _ M=>?_
  repeat(first|refine sz M fun M=>?_|refine sj M fun M=>?_|refine sQ ?_)
  try refine aj ?_
  first
  |exact⟨rfl,rfl,M.bel⟩
  |skip
 all_goals
  go_wp2_with refine mz M fun M=>?_
  exact mr M ⟨rfl,M.bel⟩
end
section
variable (a b:Rt) [ha:Fct a.ok] [hb:Fct b.ok]
include ha hb in
def EB:gD 106 #[.agg (rtC a).toArray,.agg (rtC b).toArray] (plusN a.neg a.n a.d b.neg b.n b.d):=fun w=>by
 have M:=Sep.new w;haveI:=Fct.mk ha.1.1;haveI:=Fct.mk ha.1.2.1;haveI:=Fct.mk hb.1.1;haveI:=Fct.mk hb.1.2.1;have H:=wO (x:=a.n) (y:=a.d) (x':=b.n) (y':=b.d) (an:=a.neg) (bn:=b.neg);generalize plusN a.neg a.n a.d b.neg b.n b.d=r at *;rcases r with _|⟨g,n,d⟩
 case' none=>haveI:=fun As=>H.no (As:=As)
 case' some=>haveI:=fun As=>H.con (As:=As)
 all_goals
  go_enter func106,ntmps106
  go_wp2_with refine mz M fun M=>?_
  first
  |exact mr M ⟨rfl,M.bel⟩
  |exact mx M fun _ M=>⟨rfl,rfl,M.bel⟩
include ha hb in
def EC:gD 108 #[.agg (rtC a).toArray,.agg (rtC b).toArray] (plusN a.neg a.n a.d (iS b.neg b.n) b.n b.d):=fun w=>by
 have M:=Sep.new w;haveI:=Fct.mk ha.1.1;haveI:=Fct.mk ha.1.2.1;haveI:=Fct.mk hb.1.1;haveI:=Fct.mk hb.1.2.1;have H:=wO (x:=a.n) (y:=a.d) (x':=b.n) (y':=b.d) (an:=a.neg) (bn:=iS b.neg b.n);generalize plusN a.neg a.n a.d (iS b.neg b.n) b.n b.d=r at *;rcases r with _|⟨g,n,d⟩
 case' none=>haveI:=fun As=>H.no (As:=As)
 case' some=>haveI:=fun As=>H.con (As:=As)
 all_goals
  go_enter func108,ntmps108
  go_wp2_with refine mz M fun M=>?_
  refine mg1 M 0 [0,1,1002,1003,1004] fun _ M=>?_
  repeat(first|refine sz M fun M=>?_|refine sj M fun M=>?_|refine sQ ?_)
  try refine aj ?_
  first
  |exact⟨rfl,rfl,M.bel⟩
  |(go_wp2_with(first|refine mm M fun _ _ _ _ M=>?_|refine mc M fun _ M=>?_);exact mr M ⟨rfl,M.bel⟩)
include ha hb in
def ED:gD 110 #[.agg (rtC a).toArray,.agg (rtC b).toArray] (timesN a.neg a.n a.d b.neg b.n b.d):=fun w=>by
 have M:=Sep.new w;haveI:=Fct.mk ha.1.1;haveI:=Fct.mk ha.1.2.1;haveI:=Fct.mk hb.1.1;haveI:=Fct.mk hb.1.2.1;have H:=wN (x:=a.n) (y:=a.d) (x':=b.n) (y':=b.d) (an:=a.neg) (bn:=b.neg);generalize timesN a.neg a.n a.d b.neg b.n b.d=r at *;rcases r with _|⟨g,n,d⟩
 case' none=>haveI:=fun As=>H.no (As:=As)
 case' some=>haveI:=fun As=>H.con (As:=As)
 all_goals
  go_enter func110,ntmps110
  go_wp2_with refine mz M fun M=>?_
  first
  |exact mr M ⟨rfl,M.bel⟩
  |exact mx M fun _ M=>⟨rfl,rfl,M.bel⟩
include ha hb in
def EE:gD 112 #[.agg (rtC a).toArray,.agg (rtC b).toArray] (timesN a.neg a.n a.d b.neg b.d b.n):=fun w=>by
 have M:=Sep.new w;haveI:=Fct.mk ha.1.1;haveI:=Fct.mk ha.1.2.1;haveI:=Fct.mk hb.1.1;haveI:=Fct.mk hb.1.2.1;have H:=wN (x:=a.n) (y:=a.d) (x':=b.d) (y':=b.n) (an:=a.neg) (bn:=b.neg);generalize timesN a.neg a.n a.d b.neg b.d b.n=r at *;rcases r with _|⟨g,n,d⟩
 case' none=>haveI:=fun As=>H.no (As:=As)
 case' some=>haveI:=fun As=>H.con (As:=As)
 all_goals
  go_enter func112,ntmps112
  go_wp2_with refine mz M fun M=>?_
  refine mg1 M 0 [0,1,1002,1003,1004] fun _ M=>?_
  repeat(first|refine sz M fun M=>?_|refine sj M fun M=>?_|refine sQ ?_)
  try refine aj ?_
  first
  |exact⟨rfl,rfl,M.bel⟩
  |(go_wp2_with(first|refine mm M fun _ _ _ _ M=>?_|refine mc M fun _ M=>?_);exact mr M ⟨rfl,M.bel⟩)
end
def calcV:Option Rt->Value
 |some r=> .tuple #[.agg #[.bool r.neg,.string (bs r.n),.string (bs r.d)],.int .i64 0]
 |none=> .tuple #[.agg #[.bool false,.string ⟨#[]⟩,.string ⟨#[]⟩],.int .i64 2]
def dO.puts{Q}{i j:Nat}{x y}{D:List Deferred}{G:List PanicEntry->World->Prop}{l:List Oper}(h:(l.all fun o=>o.dst != some i&&o.dst != some j)=true)(k:Nat)(o)(ho:l.toArray[k]? = some o)(c:List PanicEntry)(a:Act)(v)(w)(hp:dO Q i j x y D G (.panic c) (a.put o.dst v) w):dO Q i j x y D G (.panic c) a w:=by
 have hm:o∈l:=Oc (i:=k) (by simpa using ho);have:=Od.1 h o hm;simp only[Ob,bne_iff_ne,ne_eq]at this;exact dO.put this.1 this.2 c a w hp
def mrd{P}{As}{a:Act}{w}{fn:Func}{R:Ending->World->Prop}{vs}{f:FuncId}{args}(M:Sep As w)(hI:CallsD P f args .returning w fun e u' w'=>e=.returned (.tuple #[])/\u'=.returning/\w'=w)(h:R (.returned (sw vs)) w)(hr:Rs P As a.tmps fn.results.toList vs:=by first|exact .nil|exact .cons g9 (by first|exact .nil|exact .cons g9 (by first|exact .nil|exact .cons g9 (by first|exact .nil|exact .cons g9 (by first|exact .nil|exact .cons g9 (by exact .nil))))))(hi:(invoke (.fn (.func f) args) #[]).run P w=.ok (.enter f args) w:=by simp[go_sem]):Leaves P fn a.tmps R [{target:= .fn (.func f) args,args:=#[]}] .returning w:=by
 refine leaves_cons (f:=f) (args:=args) (by simp) hi (hI.mono ?_);rintro e u' w'' ⟨rfl,rfl,rfl⟩;exact⟨_,wH M hr,h⟩
section
variable {w W:World} {As:List Asn} {rb eb:Nat} {a b c d:Value}
def Sep.a1{b:Nat}{c}{t:TypeId}(_:Sep (.box b c t::As) W):∃x,x=b:=⟨_,rfl⟩
def Sep.a2{b b':Nat}{c c'}{t t':TypeId}(_:Sep (.box b c t:: .box b' c' t'::As) W):∃x y,x=b/\y=b':=⟨_,_,rfl,rfl⟩
def Sep.ne{b b':Nat}{c c'}{t t':TypeId}(M:Sep (.box b c t:: .box b' c' t'::As) W):b'≠b:=fun e=>by
 subst e;obtain⟨F,h1,h2⟩:=M;exact h2 0 1 _ _ rfl rfl (by decide) trivial b' (((h1 0 _ rfl).2 b').2 rfl) (((h1 1 _ rfl).2 b').2 rfl)
def EF[o:Old As w](M:Sep (.box eb [d] 41:: .box rb [a,b,c] 37::As) W)(tmps:Array Value)(h6:tmps.getD 6 undef=.pointer rb)(h7:tmps.getD 7 undef=.pointer eb) :Leaves prog Tryz.f35 tmps (Ret w (calcV none)) [{target:= .fn (.func 56) #[.pointer rb,.pointer eb],args:=#[]}] (.panicking (fX 2)) W:=by
 rw[Ow]at h6 h7;refine leaves_cons (f:=56) (args:=#[.pointer rb,.pointer eb]) (by simp) (by simp[go_sem]) ?_;refine(Eo rb eb 2 a b c d W (M.blk (i:=1) ⟨rfl⟩) (M.blk (i:=0) ⟨rfl⟩) M.ne).mono ?_;rintro e u' w'' ⟨rfl,rfl,w1,ab,rfl⟩;have M1:=M.ext ab;have M2:=M1.put (i:=1) ⟨rfl⟩ ((M1.blk (i:=1) ⟨rfl⟩).set 0 (.bool false)) (cM _ _ _ _);have M3:=M2.put (i:=1) ⟨rfl⟩ ((M2.blk (i:=1) ⟨rfl⟩).set 1 (.string ⟨#[]⟩)) (cM _ _ _ _);have M4:=M3.put (i:=1) ⟨rfl⟩ ((M3.blk (i:=1) ⟨rfl⟩).set 2 (.string ⟨#[]⟩)) (cM _ _ _ _);have M5:=M4.put (i:=0) ⟨rfl⟩ ((M4.blk (i:=0) ⟨rfl⟩).set 0 (.int .i64 2)) (cM _ _ _ _);have r1:=M5.blk (i:=1) ⟨rfl⟩;have r0:=M5.blk (i:=0) ⟨rfl⟩;obtain⟨q0,q1,q2⟩:=dc r1;have q3:=(r0.at 0 _ rfl).1;generalize World.setCell _ _ _=W5 at *;exact⟨calcV none,by simp[results,results35,go_sem,h6,h7,q0,q1,q2,q3,calcV],rfl,(show Sep As _ from M5.dr 2).bel⟩
def pz{k:Nat}{sg:Int}{fo:FuncId}{r:Option (Bool×Nat×Nat)}(a b:Rt)(w)(ha:a.ok)(hb:b.ok)(hT:Tab w)(h0:(sg==47)=false\/b.n≠0)(hr:∀g n d,r=some (g,n,d)->n<LIM/\d<LIM/\0<d)(HO:gD fo #[.agg (rtC a).toArray,.agg (rtC b).toArray] r)(ad:Instr.findNow (.int .u8) (.int .u8 sg) [{key:= .int .u8 43,val:= .func (.func 106) #[] #[],born:=0},{key:= .int .u8 45,val:= .func (.func 108) #[] #[],born:=1},{key:= .int .u8 42,val:= .func (.func 110) #[] #[],born:=2},{key:= .int .u8 47,val:= .func (.func 112) #[] #[],born:=3}] 0=some (some (k,.func (.func fo) #[] #[])))(ag:∀args W,(callFunc fo args).run prog W=.ok (.enter fo args) W):Calls prog 35 #[.int .u8 sg,.agg (rtC a).toArray,.agg (rtC b).toArray] w (Ret w (calcV (iR r))):=by
 have M:=Sep.new w;have an:=mF;haveI hc:∀(a:Rt) [ha:Fct a.ok] As [Old As w],aB prog 8 #[.agg (rtC a).toArray] As (.int .i64 0):=fun a ha As _=>⟨fun W M=>by
  have:=iP a.neg (bs a.n) (bs a.d) W (hT.below M.bel);rwa[gY (bN.of ha.out)]at this⟩
 haveI:=Fct.mk ha;haveI:=Fct.mk hb;have ac:=fun W:World=>Em (P:=prog) 126 5 125 .u8 underlying126 underlying5 (W.alloc sy) W.heap.size _ _ k sg _ (N8 W _) ad;replace ac:=MY ac;have al:(sg==47)=false\/(bs b.n).toList.isEmpty=false:=h0.imp id fun h=>by rw[iN];simpa using h
 haveI hl:∀g n d,r=some (g,n,d)->∀As [Old As w],aB prog 54 #[.agg #[.bool g,.string (bs n),.string (bs d)]] As (.agg (rtC (lowR g n d)).toArray):=fun g n d e As _=>⟨fun W M=>by
  obtain⟨h1,h2,h3⟩:=hr g n d e;exact wz g n d W h1 h2 h3 (hT.below M.bel)⟩
 clear ad h0 hr ha hb;obtain⟨r',ab⟩:=nm r;rw[ab]at HO hl;rcases r' with _|⟨g,n,d⟩
 case' none=>haveI:=fun As=>HO.no (As:=As)
 case' some=>
  haveI:=fun As=>HO.con (As:=As);haveI:=hl g n d rfl
 all_goals
  replace ab:=MY ab
  clear hl HO
  rcases al with h0|h0
  all_goals
   cases h1:sg==47
   all_goals first|(rw[h0]at h1;cases h1;done)|skip
   all_goals
    go_enter_defers func35,ntmps35
    go_wp2_with refine mz M fun M=>?_
    obtain⟨eb,rb,rfl,rfl⟩:=M.a2
    refine sA 6 7 (.pointer rb) (.pointer eb) [{target:= .fn (.func 56) #[.pointer rb,.pointer eb],args:=#[]}] (fun c W=>iR r=none/\c=fX 2/\∃(d a b c:Value)(As:List Asn),Old As w/\Sep (.box eb [d] 41:: .box rb [a,b,c] 37::As) W) ?_ ?_
    ·rintro c ⟨tm,df⟩ W hd h6 h7 ⟨hn,rfl,_,_,_,_,_,ho,M⟩
     simp only at hd
     subst hd
     rw[hn]
     exact EF M tm h6 h7
    refine mg2 M 1 0 [1,3,4,5,6,7,8,9,10,11,12,13,14,15,16,1000,1002,1017,1018,1019,1020] ?_ (hQ:=by exact dO.puts (by kernel_rfl))
    clear M
    intro W1 M
    repeat(first|refine sq ?_|refine sQ ?_)
    refine gB rfl rfl rfl fun K hK=>?_
    go_simp
    refine(En _).mono ?_
    rintro e W2 ⟨rfl,rfl⟩
    refine hK.out _ _ ⟨(_,_),M.ext ((NB _ _).alloc (No _) _)⟩ fun _=>?_
    replace M:=M.ext ((NB _ _).alloc (No _) sy)
    have ad:=ac.out W1
    clear hK K
    refine gB rfl rfl rfl fun K hK=>?_
    go_simp
    refine hK.out _ _ ⟨(_,_),M⟩ fun _=>?_
    clear hK K ac ad
    first
    |(refine sc M ?_ (hs:= .call rfl rfl rfl (by simp only[MZ,M9];rfl) (by infer_instance) rfl (ag _));clear M;intro _ M)
    |(refine sx M ?_ (hc:=ag _);clear M;intro _ M)
    repeat(first|refine sq ?_|refine sc M fun _ M=>?_|refine st M ?_|refine sS ?_|refine sx M fun _ M=>?_|refine sQ ?_)
    try(refine⟨rfl,rfl,rfl,?_⟩;exact⟨by simp[ab.out,iR],rfl,_,_,_,_,_,(by infer_instance),M⟩)
 all_goals
  refine aj (dO.normal ?_)
  go_wp2
  rw[ab.out]
  exact mrd M (Ep _ _ _) ⟨rfl,M.bel⟩
end
def kg:Option Nat->Value
 |some k=> .tuple #[.int .i64 (k:Int),.int .i64 0]
 |none=> .tuple #[.int .i64 0,.int .i64 2]
def wP{n:Nat}(h:n<9223372036854775808):iL n=.tuple #[.int .i64 (n:Int),.bool true]:=if_pos h
def EG{n:Nat}(h:¬n<9223372036854775808):iL n=.tuple #[.int .i64 0,.bool false]:=if_neg h
section
attribute [local simp] calcV kg
def pA{y y' d:Nat}(e:d=y*y')(h:0<y)(h':0<y'):0<d:=e▸Nat.mul_pos h h'
def wQ(a b:Rt)(w)(ha:a.ok)(hb:b.ok)(hT:Tab w):Calls prog 276 #[bA a,bA b] w (Ret w (calcV (addR a b))):=by
 haveI:=Fct.mk ha;haveI:=Fct.mk hb;haveI:∀As [Old As w],aB prog 35 #[.int .u8 43,.agg (rtC a).toArray,.agg (rtC b).toArray] As (calcV (addR a b)):=fun As _=>⟨fun W M=>by
  have:=pz (sg:=43) (k:=0) a b W ha hb (hT.below M.bel) (.inl rfl) (fun g n d e=>⟨(jx e).1,(jx e).2.1,pA (jx e).2.2 ha.2.2.1 hb.2.2.1⟩) (EB a b) rfl (enters_of func106 (by kernel_rfl) rfl);exact this⟩
 show Calls _ _ #[.agg (rtC a).toArray,.agg (rtC b).toArray] _ _;have M:=Sep.new w;generalize addR a b=o at *
 cases o;all_goals
  go_enter func276,ntmps276
  go_wp2_with refine mz M fun M=>?_
  exact mr M ⟨rfl,M.bel⟩
def lq(a b:Rt)(w)(ha:a.ok)(hb:b.ok)(hT:Tab w):Calls prog 13 #[bA a,bA b] w (Ret w (calcV (subR a b))):=by
 haveI:=Fct.mk ha;haveI:=Fct.mk hb;haveI:∀As [Old As w],aB prog 35 #[.int .u8 45,.agg (rtC a).toArray,.agg (rtC b).toArray] As (calcV (subR a b)):=fun As _=>⟨fun W M=>by
  have:=pz (sg:=45) (k:=1) a b W ha hb (hT.below M.bel) (.inl rfl) (fun g n d e=>⟨(jx e).1,(jx e).2.1,pA (jx e).2.2 ha.2.2.1 hb.2.2.1⟩) (EC a b) rfl (enters_of func108 (by kernel_rfl) rfl);exact this⟩
 show Calls _ _ #[.agg (rtC a).toArray,.agg (rtC b).toArray] _ _;have M:=Sep.new w;generalize subR a b=o at *
 cases o;all_goals
  go_enter func13,ntmps13
  go_wp2_with refine mz M fun M=>?_
  exact mr M ⟨rfl,M.bel⟩
def jA(a b:Rt)(w)(ha:a.ok)(hb:b.ok)(hT:Tab w):Calls prog 15 #[bA a,bA b] w (Ret w (calcV (mulR a b))):=by
 haveI:=Fct.mk ha;haveI:=Fct.mk hb;haveI:∀As [Old As w],aB prog 35 #[.int .u8 42,.agg (rtC a).toArray,.agg (rtC b).toArray] As (calcV (mulR a b)):=fun As _=>⟨fun W M=>by
  have:=pz (sg:=42) (k:=2) a b W ha hb (hT.below M.bel) (.inl rfl) (fun g n d e=>⟨(lk e).1,(lk e).2.1,pA (lk e).2.2 ha.2.2.1 hb.2.2.1⟩) (ED a b) rfl (enters_of func110 (by kernel_rfl) rfl);rwa[wK]⟩
 show Calls _ _ #[.agg (rtC a).toArray,.agg (rtC b).toArray] _ _;have M:=Sep.new w;generalize mulR a b=o at *
 cases o;all_goals
  go_enter func15,ntmps15
  go_wp2_with refine mz M fun M=>?_
  exact mr M ⟨rfl,M.bel⟩
def pC(a b:Rt)(w)(ha:a.ok)(hb:b.ok)(h0:b.n≠0)(hT:Tab w):Calls prog 16 #[bA a,bA b] w (Ret w (calcV (divR a b))):=by
 haveI:=Fct.mk ha;haveI:=Fct.mk hb;haveI:∀As [Old As w],aB prog 35 #[.int .u8 47,.agg (rtC a).toArray,.agg (rtC b).toArray] As (calcV (divR a b)):=fun As _=>⟨fun W M=>by
  have:=pz (sg:=47) (k:=3) a b W ha hb (hT.below M.bel) (.inr h0) (fun g n d e=>⟨(lk e).1,(lk e).2.1,pA (lk e).2.2 ha.2.2.1 (Nat.pos_of_ne_zero h0)⟩) (EE a b) rfl (enters_of func112 (by kernel_rfl) rfl);unfold divR;rwa[wK]⟩
 show Calls _ _ #[.agg (rtC a).toArray,.agg (rtC b).toArray] _ _;have M:=Sep.new w;generalize divR a b=o at *
 cases o;all_goals
  go_enter func16,ntmps16
  go_wp2_with refine mz M fun M=>?_
  exact mr M ⟨rfl,M.bel⟩
def wS(a:Rt)(w)(ha:a.ok)(hn:a.neg=false)(hT:Tab w):Calls prog 17 #[bA a] w (Ret w (kg (ceilR a))):=by
 have ac:a.n/a.d<LIM:=Nt (NH _ _) ha.1;haveI HW:∀As [Old As w],aB prog 36 #[.agg (rtC a).toArray,.bool true] As (kg (ceilR a)):=fun As _=>⟨fun w1 M1=>by
  haveI:∀As [Old As w1],aB prog 8 #[.agg (rtC a).toArray] As (.int .i64 0):=fun As _=>⟨fun W M=>by
   have:=iP a.neg (bs a.n) (bs a.d) W ((hT.below M1.bel).below M.bel);rwa[gY (bN.of ha)]at this⟩
  haveI:∀As,aB prog 58 #[.string (bs a.n),.string (bs a.d)] As (.tuple #[.string (bs (a.n/a.d)),.string (bs (a.n%a.d)),.int .i64 0]):=fun As=>⟨fun W _=>by
   simpa only[aU]using rV (bs a.n) (bs a.d) W (da ha.1) (da ha.2.1) (by rw[aU];have:=ha.2.2.1;omega)⟩
  haveI:∀As,aB prog 59 #[.string (bs (a.n/a.d))] As (iL (a.n/a.d)):=fun As=>⟨fun W _=>by
   simpa only[aU]using De (bs (a.n/a.d)) W (wg _) (by have:=(da ac).2;omega)⟩
  have ab:=iN (a.n%a.d);have M:=Sep.new w1;unfold ceilR;generalize a.n/a.d=q at *;generalize a.n%a.d=r at *;by_cases h1:q<=4611686018427387904
  case' neg=>
   rw[if_neg h1];rcases Nh q 9223372036854775808 with h4|h4
   case' inl=>
    have e1:=wP h4;have t1:decide (4611686018427387904<(q:Int))=true:=by simp;omega
   case' inr=>have e1:=EG (Nat.not_lt.2 h4)
  case' pos=>
   rw[if_pos h1];have e1:=wP (show q<9223372036854775808 by omega);have t1:decide (4611686018427387904<(q:Int))=false:=by simp;omega
   by_cases h2:r=0
   case' pos=>
    rw[if_pos h2];have he:(bs r).toList.isEmpty=true:=by rw[ab];simp[h2]
   case' neg=>
    rw[if_neg h2];have he:(bs r).toList.isEmpty=false:=by rw[ab];simp[h2]
    have e2:IntKind.i64.wrap ((q:Int)+1)=((q+1:Nat):Int):=by rw[NC];omega
    by_cases h3:q+1<=4611686018427387904
    case' pos=>
     rw[if_pos h3];have t3:decide (4611686018427387904<(q:Int)+1)=false:=by simp;omega
    case' neg=>
     rw[if_neg h3];have t3:decide (4611686018427387904<(q:Int)+1)=true:=by simp;omega
  all_goals
   clear ab
   go_enter func36,ntmps36
   go_wp2_with refine mz M fun M=>?_
   all_goals first
   |exact mr M ⟨rfl,M.bel⟩
   |(exfalso;simp_all)⟩
 show Calls _ _ #[.agg (rtC a).toArray] _ _;have M:=Sep.new w;generalize ceilR a=o at *
 cases o;all_goals
  go_enter func17,ntmps17
  go_wp2_with refine mz M fun M=>?_
  exact mr M ⟨rfl,M.bel⟩
def EH(br be:Nat)(w) :CallsD prog 51 #[.pointer br,.pointer be] .returning w fun e u' w'=>e=.returned (.tuple #[])/\u'=.returning/\w'=w:=by
 refine callsD_of_wpS func51 rfl fun c₀ cs hu=>?_;apply wpS_seq;apply wpS_region;simp[wpOpsS,go_sem,recoverD,hu,ntmps51,Exit.thenS];refine wpS_of_wp ?_;simp only[NZ,N0,N1,N2,M9,MZ,NY,OB,OC];go_wp2
 cases c₀;simp_all [bodyPostS,results,results51]
def ej(n d:Nat)(w)(hn:n<9223372036854775808)(hd:d<9223372036854775808)(h0:0<d)(hT:Tab w):Calls prog 33 #[.int .i64 (n:Int),.int .i64 (d:Int)] w (Ret w (.tuple #[bA (lowR false n d),.int .i64 0])):=by
 have ab:9223372036854775808<=LIM:=by decide
 haveI:=Fct.mk hn;haveI:=Fct.mk hd;haveI:∀(n:Nat) [hn:Fct (n<9223372036854775808)] As,aB prog 103 #[.int .i64 (n:Int)] As (.tuple #[.string (bs n),.int .i64 0]):=fun n hn As=>⟨fun W _=>Dd n W hn.out⟩
 haveI:∀(n:Nat) [hn:Fct (n<9223372036854775808)] As,aB prog 53 #[.int .i64 (n:Int)] As (.string (bs n)):=fun n hn As=>⟨fun W _=>by
  have M:=Sep.new W;have t:decide (0<=(n:Int))=true:=by simp
  go_enter func53,ntmps53;go_wp2_with refine mz M fun M=>?_;exact mr M ⟨rfl,M.bel⟩⟩
 haveI:∀As [Old As w],aB prog 54 #[.agg #[.bool false,.string (bs n),.string (bs d)]] As (.agg (rtC (lowR false n d)).toArray):=fun As _=>⟨fun W M=>wz false n d W (by omega) (by omega) h0 (hT.below M.bel)⟩
 have ac:=mF;have t0:((d:Int)==0)=false:=by rw[beq_eq_false_iff_ne];omega
 have t1:decide ((n:Int)<0)=false:=by simp
 have t2:decide ((d:Int)<0)=false:=by simp
 have M:=Sep.new w;clear hn hd h0 ab;go_enter_defers func33,ntmps33;go_wp2_with refine mz M fun M=>?_;exact mrd M (EH _ _ _) ⟨rfl,M.bel⟩
def aS(a:Rt):List Value:=[.bool a.neg,.string (bs a.n),.string (bs a.d)]
def EJ(v)(L:List Rt)(w)(hL:RowC w 3 v (L.map aS))(ag:∀a∈L,a.ok)(hl:L.length<=1048576)(hT:Tab w):Calls prog 269 #[v] w (Ret w (calcV (sumR L ae))):=by
 haveI:ah w v Rt 3 L rtC:=⟨hL,hl⟩
 haveI hc:∀(a:Rt) [ha:Fct a.ok] As [Old As w],aB prog 8 #[.agg (rtC a).toArray] As (.int .i64 0):=fun a ha As _=>⟨fun W M=>by
  have:=iP a.neg (bs a.n) (bs a.d) W (hT.below M.bel);rwa[gY (bN.of ha.out)]at this⟩
 have M:=Sep.new w;go_enter func269,ntmps269;go_wp2_with refine mz M fun M=>?_;go_loopw [10] (fun i W=>∃k:Nat,k<=L.length/\i=.int .i64 k/\M.w0 W) (fun i _=>L.length-(intOf i).toNat)
 case atStart=>exact⟨0,Nu _,rfl,M⟩
 obtain⟨k,hk,rfl,M⟩:=hrel;simp only[Sep.w0]at M;by_cases ad:k<L.length
 case pos=>
  obtain⟨x,hx⟩:=gx (l:=L) (i:=k) ad;haveI:=Fct.mk (ag x (Oc hx));go_wp2_with refine mz M fun M=>?_;go_roundw
  case rel=>exact⟨k+1,by omega,by go_num,M.dr 1⟩
  case measure=>simp[intOf];omega
 go_wp2_with refine mz M fun M=>?_;go_loopw [22] (fun i W=>∃(j:Nat)(r:Rt),j<=L.length/\i=.int .i64 j/\r.ok/\Hid (sumR (L.take j) ae=some r)/\M.w1 0 (rtC r) W) (fun i _=>L.length-(intOf i).toNat)
 case atStart=>exact⟨0,ae,Nu _,rfl,jy,rfl,M⟩
 obtain⟨j,r,hj,rfl,al,ac,M⟩:=hrel;simp only[Sep.w1,upC]at M;by_cases ad:j<L.length
 ·obtain⟨x,hx⟩:=gx (l:=L) (i:=j) ad;have an:=ag x (Oc hx);haveI:∀As [Old As w],aB prog 276 #[.agg (rtC r).toArray,.agg (rtC x).toArray] As (calcV (addR r x)):=fun As _=>⟨fun W M=>wQ r x W al an (hT.below M.bel)⟩
  have ab:sumR (L.take (j+1)) ae=addR r x:=by
   rw[Ox,hx,wL,ac.out];simp only[Option.toList,sumR]
   cases addR r x <;> rfl
  obtain⟨o,ho⟩:=nm (addR r x);rw[ho]at this ab;replace ab:=MY ab
  cases o
  case none=>
   go_wp2_with refine mz M fun M=>?_;rw[show sumR L ae=none by rw[<-List.take_append_drop (j+1) L,wL,ab.out]];exact mr M ⟨rfl,M.bel⟩
  case some c=>
   go_wp2_with refine mz M fun M=>?_;go_roundw
   case rel=>exact⟨j+1,c,by omega,by go_num,pw ho al an,ab,M.dr 1⟩
   case measure=>simp[intOf];omega
 ·go_wp2_with refine mz M fun M=>?_;rw[show sumR L ae=some r by rw[<-ac.out,Ny (by omega)]];exact mr M ⟨rfl,M.bel⟩
end
section
variable {As:List Asn} {w0:World} {a b:Rt}
instance[Old As w0][hT:Fct (Tab w0)][ha:Fct a.ok][hb:Fct b.ok][h0:Fct (b.n≠0)]:aB prog 16 #[.agg (rtC a).toArray,.agg (rtC b).toArray] As (calcV (divR a b)):=⟨fun W M=>pC a b W ha.out hb.out h0.out (hT.1.below M.bel)⟩
instance[Old As w0][hT:Fct (Tab w0)][ha:Fct a.ok][hb:Fct b.ok]:aB prog 276 #[.agg (rtC a).toArray,.agg (rtC b).toArray] As (calcV (addR a b)):=⟨fun W M=>wQ a b W ha.out hb.out (hT.1.below M.bel)⟩
instance[Old As w0][hT:Fct (Tab w0)][ha:Fct a.ok][hb:Fct b.ok]:aB prog 13 #[.agg (rtC a).toArray,.agg (rtC b).toArray] As (calcV (subR a b)):=⟨fun W M=>lq a b W ha.out hb.out (hT.1.below M.bel)⟩
instance[Old As w0][hT:Fct (Tab w0)][ha:Fct a.ok][hb:Fct b.ok]:aB prog 15 #[.agg (rtC a).toArray,.agg (rtC b).toArray] As (calcV (mulR a b)):=⟨fun W M=>jA a b W ha.out hb.out (hT.1.below M.bel)⟩
end
section
variable {P:Program} {As:List Asn} {w w0 W:World} {ops:Array Oper} {rest:List Oper} {Q:Exit->Act->World->Prop} {oper:Oper} {a:Act} {x y:Operand} {t e T:TypeId} {v:Value} {k i j g c:Nat} {L:List (List Value)} {xc:List Value} {A:Asn}
def Sep.own0(M:Sep As w)(h:cH As v e k L i:=by infer_instance)[o:Old As w0]:aa w w0.heap.size e k v L:=by
 obtain⟨F,h1,h2⟩:=M;obtain⟨j,hj⟩:=o.out;obtain⟨ho,hF⟩:=h1 i _ h.out;obtain⟨_,hG⟩:=h1 j _ hj;refine⟨⟨ho.1.1,?_⟩,ho.2⟩;rcases ho.1.2 with hn|⟨b,cap,cur,rfl,_,r⟩
 ·exact .inl hn
 ·refine .inr ⟨b,cap,cur,rfl,?_,r⟩;refine Nat.le_of_not_lt fun ab=>h2 i j _ _ h.out hj (fun e=>by subst e;rw[h.out]at hj;cases hj) trivial b ((hF b).2 rfl) ((hG b).2 ab)
class pD(As:List Asn)(v:outParam Value)(e:outParam TypeId)(k:outParam Nat)(L:outParam (List (List Value)))(i:outParam Nat):Prop where
 out:As[i]? = some (.row v e k L)
instance:pD (.row v e k L::As) v e k L 0:=⟨rfl⟩
instance[h:pD As v e k L i]:pD (A::As) v e k L (i+1):=⟨h.out⟩
def Sep.own1(M:Sep As w)[h:pD As v e k L i][o:Old As w0]:aa w w0.heap.size e k v L:=M.own0 (h:=⟨h.out⟩)
def Sep.nilR(M:Sep As w)(e)(k:Nat):Sep (.row (.slice none 0 0) e k []::As) w:=
 M.push (NB _ _) (G:=fun _=>False) ⟨aa.none_ w 0 e k,fun j=>⟨False.elim,fun h=>by cases h⟩⟩ fun _ h=>h.elim
def Sep.grow(M:Sep As w)(h:cH As v e k L i){u}{L':List (List Value)}(ho:aa W 0 e k u L')(hg:w.grownBy W v.ownBlock)(hb:u.ownBlock=v.ownBlock\/u.ownBlock=some w.heap.size):Sep (As.set i (.row u e k L')) W:=
 M.upd h.out trivial fun F ⟨_,hF⟩=>⟨⟨hg.os,hg.tape,hg.output,hg.size,fun b ⟨hb,hn⟩=>hg.block b hb (fun e=>hn ((hF b).2 e.symm))⟩,fun b=>u.ownBlock=some b,⟨ho,fun _=>Iff.rfl⟩,fun b hb'=>by
  rcases hb with h|h
  ·exact .inl ((hF b).2 (h▸hb'))
  ·rw[h]at hb';exact .inr (Nat.le_of_eq (Option.some.inj hb'))⟩
def ia(P:Program)(t e:TypeId)(k:Nat):Bool:=(match P.underlying t with|some (.slice e')=>e'==e|_=>false)&&(match P.info? e with|some i=>i.size==k&&(Nat.blt 0 k&&(Nat.ble i.bytes 1024&&(match i.zero with|some z=>z.cells.size==k|none=>false)))|none=>false)
def sC(h:ia P t e k=true):∃bytes,bE P t e k bytes:=by
 unfold ia at h;rw[Ob]at h;obtain⟨h1,h2⟩:=h;split at h1
 ·rename_i e' hu
  cases hi:P.info? e with
  |none=>simp[hi]at h2
  |some i=>
   cases hz:i.zero with
   |none=>simp[hi,hz]at h2
   |some z=>
    simp only[hi,hz,Ob,beq_iff_eq,Nat.blt_eq,Nat.ble_eq]at h2
    have:e'=e:=by simpa using h1
    subst this
    exact⟨i.bytes,i,z,hu,hi,hz,h2.1,rfl,h2.2.2.2,h2.2.1,h2.2.2.1⟩
 ·cases h1
def ap1{K:Act->World->Prop}{Q:Exit->Act->World->Prop}(M:Sep As w)(ho:oper.op=.call {callee:= .builtin .append,args:=#[x,y],argTypes:=#[t,t]})(hx:evo a x=some v)(hR:cH As v e k L i)(hy:a.eval y=.slice g 1 c)(hB:Has As g xc T j)(hl:xc.length=k)(h1:(xc.all fun u=>u.oneCell')=true)(hL:L.length<=16777216)(hA:ia P t e k=true)(h:∀f m d W,Sep (As.set i (.row (.slice f m d) e k (L++[xc]))) W->K (a.put oper.dst (.slice f m d)) W):oper.wp P a w K Q:=by
 obtain⟨bytes,i0,z,ht,hi,hz,ab,ag,al,hk,ac⟩:=sC hA;have ad:(L.length+1)*bytes<=140737488355328:=Nv (Nat.mul_le_mul (show L.length+1<=16777217 by omega) ac) (by omega);refine jY w x y t ho 0 e i0 z k bytes ht hi hz ab ag al hk v L.length L.flatten (bU hx) (M.own hR).1 (g+1) (some ⟨g,0,none⟩) 1 c xc hy (pd (M.blk hB) (by omega)) (fun u hu=>Od.1 h1 u hu) (by unfold maxLen;omega) ad (Nu _) fun u W h2 h3 h4=>?_;have hO:aa W 0 e k u (L++[xc]):=⟨by rw[Oe,List.flatten_append];simpa using h2,fun c hc=>by
  rcases Of.1 hc with hc|hc
  ·exact(M.own hR).2 c hc
  ·simp only[Og,Oh,or_false]at hc;subst hc;exact hl⟩
 obtain⟨f,d,rfl⟩:=hO.slice;exact h _ _ _ W (M.grow hR hO h3 h4)
def mp{a':Option Addr->Nat->Nat->Act}{Bs:Option Addr->Nat->Nat->List Asn}(M:Sep As w)(h:∀{f m d W},Sep (Bs f m d) W->wpList P ops Q rest (a' f m d) W)(ho:oper.op=.call {callee:= .builtin .append,args:=#[x,y],argTypes:=#[t,t]}:=by rfl)(hT:P.underlying t=some (.slice e):=by rfl)(hx:evo a x=some v:=by rfl)(hR:cH As v e k L i:=by infer_instance)(hy:a.eval y=.slice g 1 c:=by rfl)(hB:Has As g xc T j:=by infer_instance)(hl:xc.length=k:=by rfl)(h1:(xc.all fun u=>u.oneCell')=true:=by first|rfl|exact Fct.out)(hL:L.length<=16777216:=by first|assumption|(simp;omega))(hA:ia P t e k=true:=by kernel_rfl)(hw:Region.wanted oper (yielded ops a.tmps)=true:=by rfl)(hu:∀f m d,As.set i (.row (.slice f m d) e k (L++[xc]))=Bs f m d:=by intro _ _ _;(try simp only[PS]);try rfl)(e':∀f m d,a.put oper.dst (.slice f m d)=a' f m d:=by intro _ _ _;(try simp only[PT]);try rfl):wpList P ops Q (oper::rest) a w:=by
 have _:=hT;simp only[wpList];rw[if_pos hw];exact Or.inl (ap1 M ho hx hR hy hB hl h1 hL hA fun f m d W M'=>by rw[e'];exact @h f m d W (hu f m d▸M'))
def sp{ι:Type}{gf:ι->List Asn}{l:List Oper}{is:List Nat}{n:Nat}{a':Option Addr->Nat->Nat->Act}{Bs:Option Addr->Nat->Nat->List Asn}(M:Sep As w)(h:∀{f m d W},Sep (Bs f m d) W->aE P l.toArray Q (fun W=>∃z,Sep (gf z) W) is (a' f m d) W)(hn:Nat.blt n 1000=false:=by rfl)(hd:l.drop (n-1000)=oper::rest:=by rfl)(ho:oper.op=.call {callee:= .builtin .append,args:=#[x,y],argTypes:=#[t,t]}:=by rfl)(hT:P.underlying t=some (.slice e):=by rfl)(hx:evo a x=some v:=by rfl)(hR:cH As v e k L i:=by infer_instance)(hy:a.eval y=.slice g 1 c:=by rfl)(hB:Has As g xc T j:=by infer_instance)(hl:xc.length=k:=by rfl)(h1:(xc.all fun u=>u.oneCell')=true:=by first|rfl|exact Fct.out)(hL:L.length<=16777216:=by first|assumption|(simp;omega))(hA:ia P t e k=true:=by kernel_rfl)(hw:Region.wanted oper (yielded l.toArray a.tmps)=true:=by rfl)(hu:∀f m d,As.set i (.row (.slice f m d) e k (L++[xc]))=Bs f m d:=by intro _ _ _;(try simp only[PS]);try rfl)(hz:∀f m d,∃z n,gf z=(Bs f m d).drop n:=by intro _ _ _;first|exact⟨(_,_,_),0,rfl⟩|exact⟨(_,_,_),1,rfl⟩|exact⟨_,0,rfl⟩|exact⟨_,1,rfl⟩)(e':∀f m d,a.put oper.dst (.slice f m d)=a' f m d:=by intro _ _ _;(try simp only[PT]);try rfl):aE P l.toArray Q (fun W=>∃z,Sep (gf z) W) (n::is) a w:=by
 have _:=hT;refine gB hn hd hw fun K hK=>ap1 M ho hx hR hy hB hl h1 hL hA fun f m d W M'=>?_;obtain⟨z,n,hz⟩:=hz f m d;rw[hu]at M';rw[e'];exact hK.out _ _ ⟨z,by rw[hz];exact M'.dr n⟩ fun _=>@h f m d W M'
def mv{a':Nat->Act}{n:Nat}{ps:List (Nat×Operand)}{vs:List (Nat×Value)}{z}{ie:TypeInfo}{zv:Value}(M:Sep As w)(h:∀{b W},Sep (.box b z e::As) W->wpList P ops Q rest (a' b) W)(ho:oper.op=.buildSlice t n ps.toArray:=by rfl)(hp:evp a ps=some vs:=by rfl)(hz:(vs.map fun p=>p.2.cells.toList).flatten=z:=by(try simp only[NP,List.map_nil,List.flatten_cons,List.flatten_nil,Oz,Value.cells,List.toList_toArray,MZ,M9]);rfl)(hu:P.underlying t=some (.slice e):=by rfl)(hi:P.info? e=some ie:=by rfl)(ab:ie.zero=some zv:=by rfl)(hs:Nat.ble (n*ie.size) 16777216=true:=by kernel_rfl)(hn:Nat.blt 0 (n*ie.size)=true:=by kernel_rfl)(hf:Instr.fill (fun i=>some (i*ie.size,ie.size)) ((Array.range (n*ie.size)).map (zv.cells[· % zv.cells.size]!)) vs=some z.toArray:=by kernel_rfl)(hw:Region.wanted oper (yielded ops a.tmps)=true:=by rfl)(e':∀b,a.put oper.dst (.slice (some ⟨b,0,none⟩) n n)=a' b:=by intro b;(try simp only[PT]);try rfl):wpList P ops Q (oper::rest) a w:=by
 have _:=hz;rw[Nat.ble_eq]at hs;rw[Nat.blt_eq]at hn;simp only[wpList];rw[if_pos hw];refine Or.inl ?_;have hm:=mZ hp;refine wp_buildSlice t e n ps.toArray ho z.toArray ie zv hu hi ab (by omega) (by omega) (by
  have e1:(Array.map (fun(x:Nat×Operand)=>match x with|(i,x)=>(i,a.eval x)) ps.toArray).toList=vs:=by rw[List.map_toArray];exact hm
  rw[e1];exact hf) ?_
 rw[e'];exact @h _ _ (M.alloc z e)
def sv{ι:Type}{gf:ι->List Asn}{l:List Oper}{is:List Nat}{m:Nat}{a':Nat->Act}{n:Nat}{ps:List (Nat×Operand)}{vs:List (Nat×Value)}{z}{ie:TypeInfo}{zv:Value}(M:Sep As w)(h:∀{b W},Sep (.box b z e::As) W->aE P l.toArray Q (fun W=>∃z,Sep (gf z) W) is (a' b) W)(hm:Nat.blt m 1000=false:=by rfl)(hl:l.drop (m-1000)=oper::rest:=by rfl)(ho:oper.op=.buildSlice t n ps.toArray:=by rfl)(hp:evp a ps=some vs:=by rfl)(hz:(vs.map fun p=>p.2.cells.toList).flatten=z:=by(try simp only[NP,List.map_nil,List.flatten_cons,List.flatten_nil,Oz,Value.cells,List.toList_toArray,MZ,M9]);rfl)(hu:P.underlying t=some (.slice e):=by rfl)(hi:P.info? e=some ie:=by rfl)(ab:ie.zero=some zv:=by rfl)(hs:Nat.ble (n*ie.size) 16777216=true:=by kernel_rfl)(hn:Nat.blt 0 (n*ie.size)=true:=by kernel_rfl)(hf:Instr.fill (fun i=>some (i*ie.size,ie.size)) ((Array.range (n*ie.size)).map (zv.cells[· % zv.cells.size]!)) vs=some z.toArray:=by kernel_rfl)(hg:∃z,gf z=As:=by first|exact Ab.to (by infer_instance) (by intro z;(try simp only[PS]);try rfl)|exact⟨_,rfl⟩|exact⟨(_,_),rfl⟩)(hw:Region.wanted oper (yielded l.toArray a.tmps)=true:=by rfl)(e':∀b,a.put oper.dst (.slice (some ⟨b,0,none⟩) n n)=a' b:=by intro b;(try simp only[PT]);try rfl):aE P l.toArray Q (fun W=>∃z,Sep (gf z) W) (m::is) a w:=by
 have _:=hz;rw[Nat.ble_eq]at hs;rw[Nat.blt_eq]at hn;refine gB hm hl hw fun K hK=>?_;have hm:=mZ hp;refine wp_buildSlice t e n ps.toArray ho z.toArray ie zv hu hi ab (by omega) (by omega) (by
  have e1:(Array.map (fun(x:Nat×Operand)=>match x with|(i,x)=>(i,a.eval x)) ps.toArray).toList=vs:=by rw[List.map_toArray];exact hm
  rw[e1];exact hf) ?_
 rw[e'];obtain⟨z',hz'⟩:=hg;have M':=M.alloc z e;exact hK.out _ _ ⟨z',by rw[hz'];exact M'.dr 1⟩ fun _=>@h _ _ M'
end
def xp{n:Int}{m:Nat}:aZ n m=true<->0<=n/\n<(m:Int):=by simp[aZ]
def pK{n:Int}{m:Nat}(h:aZ n m=true):∃k:Nat,n=(k:Int)/\k<m:=by
 obtain⟨h1,h2⟩:=xp.1 h;exact⟨n.toNat,by omega,by omega⟩
def ey{w}{k:Nat}{v}{α:Type}{f:α->List Value}{L:List α}(h:RowC w k v (L.map f)){i:Nat}{x:α}(hx:L[i]? = some x):∃b off cap,v=.slice (some ⟨b,off,none⟩) L.length cap/\b<w.heap.size/\∀(j:Nat)(y:Value),(f x)[j]? = some y->w.cell? ⟨b,off+i*k+j,none⟩=some y:=by
 obtain⟨A,cap,rfl,_,h⟩:=h;obtain⟨b,off,rfl,hb,hc⟩:=h i (f x) (by rw[Ou,hx];rfl);exact⟨b,off,cap,by rw[N6],hb,hc⟩
def aC.rt(u:aC):Rt:=⟨u.neg,bv u.sn,bv u.sd⟩
def gF(n:Int):Bool:=decide (1<=n)&&decide (n<=1000000)
def scaleR(v:aC)(n d:Nat):Option Rt:=(mulR aq v.rt).bind fun r=>mulR r (lowR false n d)
def resU(x:List aC)(i:Nat)(u:aC):Option aC:=
 if u.of.toList.isEmpty then
  if u.n=0/\u.d=0 then some {u with base:=i,neg:=false,sn:=bs 1,sd:=bs 1}else none
 else if gF u.n&&gF u.d then
  match x.findIdx? fun v=>decide (v.name=u.of)with
  |none=>none
  |some k=>match x[k]? with
   |none=>none
   |some v=>match scaleR v u.n.toNat u.d.toNat with
    |none=>none
    |some r=>some {u with base:=v.base,neg:=r.neg,sn:=bs r.n,sd:=bs r.d}
 else none
def resAll:List aC->List aC->Option (List aC)
 |x,[]=>some x
 |x,u::l=>match resU x x.length u with
  |none=>none
  |some u'=>resAll (x++[u']) l
def jF(l:List aC):Bool:=(List.range l.length).any fun i=>match l[i]? with
 |some u=>(l.take i).any fun v=>decide (v.name=u.name)
 |none=>false
def eF(l:List aC):Option (List aC):=if l.length<=32 then if jF l then none else resAll [] l else none
def bI(l:List aC):Prop:=eF l=some l
def aC.good(u:aC):Prop:=u.rt.ok/\u.rt.neg=false/\u.rt.n≠0/\u.sn=bs u.rt.n/\u.sd=bs u.rt.d
def pM{g:Bool}{n d:Nat}(hn:n≠0)(hd:0<d):(lowR g n d).n≠0:=fun h=>hn ((wu hd).1 h)
def nt{a b c}(h:mulR a b=some c)(ha:a.n≠0)(hb:b.n≠0)(ab:0<a.d)(ac:0<b.d):c.n≠0:=by
 unfold mulR at h;split at h
 ·cases h;exact pM (Nat.mul_ne_zero ha hb) (Nat.mul_pos ab ac)
 ·cases h
def fE:9223372036854775808<LIM:=by
 have:(256:Nat)^8<=256^256:=Ng (by omega) (by omega);unfold LIM;omega
def Fn{v:aC}{n d:Nat}{r}(hv:v.good)(hn:0<n)(ac:n<=1000000)(hd:0<d)(ab:d<=1000000)(h:scaleR v n d=some r):r.ok/\r.neg=false/\r.n≠0:=by
 obtain⟨h1,h2,h3,_⟩:=hv;have:=fE;unfold scaleR at h
 cases h4:mulR aq v.rt with
 |none=>rw[h4]at h;cases h
 |some c=>
  rw[h4]at h
  have h:mulR c (lowR false n d)=some r:=h
  have c0:=fB h4 (by decide) h1.2.2.1
  have c1:=mT h4 rfl h2
  have c2:=nt h4 (by decide) h3 (by decide) h1.2.2.1
  have l0:(lowR false n d).ok:=dq (by omega) (by omega) hd
  exact⟨fB h c0.2.2.1 l0.2.2.1,mT h c1 (by simp[lowR]),nt h c2 (pM (by omega) hd) c0.2.2.1 l0.2.2.1⟩
def Fo{x:List aC}{i:Nat}{u u'}(hx:∀v∈x,v.good)(h:resU x i u=some u'):u'.good:=by
 unfold resU at h;split at h
 ·split at h
  ·cases h;have e:(⟨false,bv (bs 1),bv (bs 1)⟩:Rt)=aq:=by rw[aU];rfl
   unfold aC.good aC.rt;simp only[e,aU];refine⟨jz,?_,?_,?_,?_⟩ <;> first|trivial|decide
  ·cases h
 ·split at h
  ·rename_i hb;split at h
   ·cases h
   ·split at h
    ·cases h
    ·rename_i v hv;split at h
     ·cases h
     ·rename_i r hr
      cases h;simp only[gF,Ob,decide_eq_true_eq]at hb;have:=Fn (hx v (Oc hv)) (by omega) (by omega) (by omega) (by omega) hr;unfold aC.good aC.rt;simp only[aU];exact⟨this.1,this.2.1,this.2.2,by trivial,by trivial⟩
  ·cases h
def sL:∀(l x y:List aC),(∀v∈x,v.good)->resAll x l=some y->∀v∈y,v.good
 |[],x,y,hx,h=>by simp only[resAll,Option.some.injEq]at h;subst h;exact hx
 |u::l,x,y,hx,h=>by
  unfold resAll at h;split at h
  ·cases h
  ·rename_i u' hu;refine sL l _ y (fun v hv=>?_) h;rcases Of.1 hv with hv|hv
   ·exact hx v hv
   ·simp only[Og,Oh,or_false]at hv;subst hv;exact Fo hx hu
def xq:∀(l x y:List aC),resAll x l=some y->y.length=x.length+l.length
 |[],x,y,h=>by simp only[resAll,Option.some.injEq]at h;subst h;simp
 |u::l,x,y,h=>by
  unfold resAll at h;split at h
  ·cases h
  ·rename_i u' hu;have:=xq l _ y h;simp only[Oe,M6,ND]at this⊢;omega
def Fp{l y:List aC}(h:eF l=some y):∀v∈y,v.good:=by
 unfold eF at h;split at h
 ·split at h
  ·cases h
  ·exact sL l [] y (by simp) h
 ·cases h
def bI.good{l:List aC}(h:bI l):∀v∈l,v.good:=Fp h
def bI.len{l:List aC}(h:bI l):l.length<=32:=by
 unfold bI eF at h;split at h
 ·assumption
 ·cases h
def pO(l:List aC)(f t:Nat)(r:Rt):Option Rt:=match l[f]?,l[t]? with
 |some u,some v=>if u.base=v.base then(mulR r u.rt).bind fun x=>divR x v.rt else none
 |_,_=>none
def amtR(s:SrcR)(a:aw):Option Rt:=match s.items[a.itemNo.toNat]? with
 |some i=>pO s.units a.unitNo.toNat i.unitNo.toNat (lowR false a.n.toNat a.d.toNat)
 |none=>none
def Fq{a:Rt}(h:a.ok)(h0:a.n≠0):(iM a).ok:=by
 obtain⟨h1,h2,h3,h4,h5⟩:=h;exact⟨h2,h1,by simp[iM];omega,by simp only[iM];rw[Nat.gcd_comm];exact h4,fun _=>by simp only[iM];omega⟩
def ny{a b c}(h:divR a b=some c)(ha:a.ok)(hb:b.ok)(h0:b.n≠0):c.ok:=
 fB h ha.2.2.1 (Fq hb h0).2.2.1
def Fr{a b c}(h:divR a b=some c)(ha:a.neg=false)(hb:b.neg=false):c.neg=false:=
 mT h ha hb
def Fs{a b c}(h:divR a b=some c)(ha:a.ok)(hb:b.ok)(h0:a.n≠0)(h1:b.n≠0):c.n≠0:=
 nt h h0 (by simp only[iM];have:=hb.2.2.1;omega) ha.2.2.1 (by simp only[iM];omega)
def Ft{l:List aC}{f t:Nat}{r x:Rt}(hl:∀v∈l,v.good)(hr:r.ok)(hn:r.neg=false)(h:pO l f t r=some x):x.ok/\x.neg=false/\(r.n≠0->x.n≠0):=by
 unfold pO at h;split at h
 ·rename_i u v hu hv;split at h
  ·have gu:=hl u (Oc hu);have gv:=hl v (Oc hv)
   cases h4:mulR r u.rt with
   |none=>rw[h4]at h;cases h
   |some c=>
    rw[h4]at h
    have h:divR c v.rt=some x:=h
    have c0:=fB h4 hr.2.2.1 gu.1.2.2.1
    exact⟨ny h c0 gv.1 gv.2.2.1,Fr h (mT h4 hn gu.2.1) gv.2.1,fun h0=>Fs h c0 gv.1 (nt h4 h0 gu.2.2.1 hr.2.2.1 gu.1.2.2.1) gv.2.2.1⟩
  ·cases h
 ·cases h
def bG(s:SrcR)(r:RecR):Bool:=
 ((aZ r.itemNo s.items.length&&aZ r.plantNo s.plants.length)&&((decide (0<=r.frm)&&decide (r.frm<r.til))&&decide (r.til<=1024)))&&
 (ic s r.ifs&&(r.ins.all (bM s)&&(km s r&&((kj r.reworkN r.reworkD&&kj r.yieldN r.yieldD)&&(kj r.tolN r.tolD&&(decide (r.reworkN<r.reworkD)&&(btw r.lead 0 15&&nj s r)))))))
def pP(s:SrcR)(m:eW):Bool:=aZ m.plantNo s.plants.length&&btw m.clean 0 15
def fF(s:SrcR):Bool:=
 s.items.all (eE s)&&(s.machs.all (pP s)&&(s.opts.all (fun o=>decide (0<o.choices.length))&&(s.forbs.all (fun f=>decide (0<f.conds.length)&&ic s f.conds)&&(s.recs.all (bG s)&&s.swaps.all (nk s)))))
def dG(s:SrcR):Bool:=
 decide (s.items.length<=32)&&(decide (s.plants.length<=8)&&(decide (s.machs.length<=16)&&(decide (s.opts.length<=6)&&(s.opts.all (fun o=>decide (o.choices.length<=4))&&(decide (s.forbs.length<=16)&&(decide (s.recs.length<=64)&&(s.recs.all (fun r=>decide (r.ins.length<=8))&&(s.recs.all (fun r=>decide (r.outs.length<=8))&&decide (s.swaps.length<=64)))))))))
def TypesOk(s:SrcR):Prop:=bI s.units/\dG s=true/\fF s=true
section
def Fu(n:Int)(w):Calls prog 149 #[.int .i64 n] w fun e w'=>e=.returned (.bool (gF n))/\w=w':=by
 unfold gF
 cases h1:decide (1<=n)
 case' true=>cases h2:decide (n<=1000000)
 all_goals
  go_enter func149,ntmps149
  go_wp2
  go_ret
  exact⟨rfl,rfl⟩
def prodR:List Rt->Rt->Option Rt
 |[],r=>some r
 |a::l,r=>match mulR r a with|some c=>prodR l c|none=>none
def xt(l m)(r):prodR (l++m) r=match prodR l r with|some c=>prodR m c|none=>none:=by
 induction l generalizing r with
 |nil=>rfl
 |cons a l ih=>
  simp only[MZ,prodR]
  cases mulR r a with
  |none=>rfl
  |some c=>exact ih c
attribute [local simp] calcV
def xu(v)(L:List Rt)(r0:Rt)(w)(hL:RowC w 3 v (L.map aS))(an:∀a∈L,a.ok)(h0:r0.ok)(hl:L.length<=1048576)(hT:Tab w) :Calls prog 150 #[v,bA r0,.func (.func 15) #[] #[]] w (Ret w (calcV (prodR L r0))):=by
 show Calls _ _ #[_,.agg (rtC r0).toArray,_] _ _;haveI:ah w v Rt 3 L rtC:=⟨hL,hl⟩
 have M:=Sep.new w;go_enter func150,ntmps150;go_wp2_with refine mz M fun M=>?_;go_loopw [13] (fun i W=>∃(j:Nat)(r:Rt),j<=L.length/\i=.int .i64 j/\r.ok/\Hid (prodR (L.take j) r0=some r)/\M.w1 1 (rtC r) W) (fun i _=>L.length-(intOf i).toNat)
 case atStart=>exact⟨0,r0,Nu _,rfl,h0,rfl,M⟩
 obtain⟨j,r,hj,rfl,ad,ac,M⟩:=hrel;simp only[Sep.w1,upC]at M;by_cases al:j<L.length
 ·obtain⟨x,hx⟩:=gx (l:=L) (i:=j) al;have ag:=an x (Oc hx);haveI:∀As [Old As w],aB prog 15 #[.agg (rtC r).toArray,.agg (rtC x).toArray] As (calcV (mulR r x)):=fun As _=>⟨fun W M=>jA r x W ad ag (hT.below M.bel)⟩
  have ab:prodR (L.take (j+1)) r0=mulR r x:=by
   rw[Ox,hx,xt,ac.out];simp only[Option.toList,prodR]
   cases mulR r x <;> rfl
  obtain⟨o,ho⟩:=nm (mulR r x);rw[ho]at this ab;replace ab:=MY ab
  cases o
  case none=>
   go_wp2_with refine mz M fun M=>?_;rw[show prodR L r0=none by rw[<-List.take_append_drop (j+1) L,xt,ab.out]];exact mr M ⟨rfl,M.bel⟩
  case some c=>
   go_wp2_with refine mz M fun M=>?_;go_roundw
   case rel=>exact⟨j+1,c,by omega,by go_num,fB ho ad.2.2.1 ag.2.2.1,ab,M.dr 1⟩
   case measure=>simp[intOf];omega
 ·go_wp2_with refine mz M fun M=>?_;rw[show prodR L r0=some r by rw[<-ac.out,Ny (by omega)]];exact mr M ⟨rfl,M.bel⟩
end
section
open Classical in
noncomputable def eqB{α:Type}(a b:α):Bool:=decide (a=b)
def eZ{α:Type}{a b:α}(h:a=b):eqB a b=true:=by simp[eqB,h]
def fG{α:Type}{a b:α}(h:¬a=b):eqB a b=false:=by simp[eqB,h]
def ko{α:Type}{a b:α}:eqB a b=true<->a=b:=by simp[eqB]
def toList_inj(a b:ByteArray):(a.toList=b.toList)=(a=b):=by
 apply propext;constructor
 ·intro h;rw[ByteArray.toList_eq,ByteArray.toList_eq]at h;obtain⟨⟨x⟩⟩:=a;obtain⟨⟨y⟩⟩:=b;simpa using h
 ·rintro rfl;rfl
def Fv{α:Type}{a b:List α}{k:Nat}{x y:α}(h:a.take k=b.take k)(hx:a[k]? = some x)(hy:b[k]? = some y)(e:x=y):a.take (k+1)=b.take (k+1):=by
 rw[Ox,Ox,h,hx,hy,e]
def Fw{α:Type}{a b:List α}{k:Nat}{x y:α}(hx:a[k]? = some x)(hy:b[k]? = some y)(e:¬x=y):¬a=b:=by
 rintro rfl;rw[hx]at hy;exact e (Option.some.inj hy)
def pQ(a b:ByteArray):(a.toList==b.toList)=eqB a b:=by
 by_cases h:a=b
 ·subst h;rw[eZ rfl];simp
 ·rw[fG h];simpa[toList_inj]using h
def Fx(a b:Int):(a != b) = !eqB a b:=by
 by_cases h:a=b
 ·subst h;rw[eZ rfl];simp
 ·rw[fG h];simpa using h
def cU(T:TypeId){α:Type}(el:α->Value):Prop:=∀x y W,(binOp .neq T (el x) (el y)).run prog W=.ok (.bool (!eqB x y)) W
class EqT(fn:FuncId){α:outParam Type}(k:outParam Nat)(f:outParam (α->List Value)):Prop where
 out:∀v u a b w,ah w v α k a f->ah w u α k b f->Calls prog fn #[v,u] w (Ret w (.bool (eqB a b)))
instance{fn k α f v u a b As w0}[h:@EqT fn α k f][Old As w0][hx:ah w0 v α k a f][hy:ah w0 u α k b f]:aB prog fn #[v,u] As (.bool (eqB a b)):=⟨fun W M=>h.out v u a b W ⟨hx.1.below M.bel,hx.le⟩ ⟨hy.1.below M.bel,hy.le⟩⟩
def ig:@cU 118 aP (fun x=> .agg (aT x).toArray)/\@cU 59 aw (fun x=> .agg (aG x).toArray)/\@cU 67 cO (fun x=> .agg (cQ x).toArray)/\@cU 103 aC (fun x=> .agg (aW x).toArray)/\@cU 95 dP (fun x=> .agg (dw x).toArray)/\@cU 163 eW (fun x=> .agg (dF x).toArray)/\@cU 172 fD (fun x=> .agg (eX x).toArray)/\@cU 72 In (fun x=> .agg (au x).toArray)/\@cU 9 ByteArray Value.string/\@cU 3 Int (Value.int .i64):=by
 refine⟨?_,?_,?_,?_,?_,?_,?_,?_,?_,?_⟩;all_goals
  intro x y W
  try dsimp only
  by_cases h:x=y
  ·rw[h,eZ rfl]
   simp[go_sem,aT,aG,cQ,aW,dw,dF,eX,au]
  rw[fG h]
 rotate_left 8
 ·simpa[go_sem,toList_inj]using h
 ·simpa[go_sem]using h
 all_goals
  cases x
  cases y
  simp[go_sem,toList_inj,aT,aG,cQ,aW,dw,dF,eX,au]
  simpa using h
def ij:(@cU 118 aP (fun x=> .agg (aT x).toArray)->@EqT 90 _ 4 aT)/\(@cU 59 aw (fun x=> .agg (aG x).toArray)->@EqT 132 _ 7 aG)/\(@cU 67 cO (fun x=> .agg (cQ x).toArray)->@EqT 133 _ 3 cQ)/\(@cU 103 aC (fun x=> .agg (aW x).toArray)->@EqT 83 _ 8 aW)/\(@cU 95 dP (fun x=> .agg (dw x).toArray)->@EqT 84 _ 6 dw)/\(@cU 163 eW (fun x=> .agg (dF x).toArray)->@EqT 86 _ 4 dF)/\(@cU 172 fD (fun x=> .agg (eX x).toArray)->@EqT 93 _ 4 eX)/\(@cU 72 In (fun x=> .agg (au x).toArray)->@EqT 45 _ 6 au)/\(@cU 9 ByteArray Value.string->@EqT 85 _ 1 bF)/\(@cU 3 Int (Value.int .i64)->@EqT 43 _ 1 af):=by
 refine⟨?_,?_,?_,?_,?_,?_,?_,?_,?_,?_⟩;all_goals
  refine fun hN=>⟨fun v u a b w hv hu=>?_⟩
  have M:=Sep.new w
  have hl:=hu.le
  have HN:=MY hN
  generalize ac:eqB a b=res
  have HR:=MY ac
  clear hN ac
  by_cases ad:a.length=b.length
  case neg=>
   have t1:((a.length:Int) != (b.length:Int))=true:=by simp;omega
   have t2:((a.length:Int)==(b.length:Int))=false:=by simp;omega
   have t3:(a.length != b.length)=true:=by simpa using ad
   have t4:(a.length==b.length)=false:=by simpa using ad
   first
   |go_enter func90,ntmps90
   |go_enter func132,ntmps132
   |go_enter func133,ntmps133
   |go_enter func83,ntmps83
   |go_enter func84,ntmps84
   |go_enter func86,ntmps86
   |go_enter func93,ntmps93
   |go_enter func45,ntmps45
   |go_enter func85,ntmps85
   |go_enter func43,ntmps43
   go_wp2_with refine mz M fun M=>?_
   refine mr M ⟨?_,M.bel⟩
   rw[<-HR.out,fG (fun e=>ad (by rw[e]))];rfl
  first
  |go_enter func90,ntmps90
  |go_enter func132,ntmps132
  |go_enter func133,ntmps133
  |go_enter func83,ntmps83
  |go_enter func84,ntmps84
  |go_enter func86,ntmps86
  |go_enter func93,ntmps93
  |go_enter func45,ntmps45
  |go_enter func85,ntmps85
  |go_enter func43,ntmps43
  go_wp2_with refine mz M fun M=>?_
  go_loopw [13] (fun i W=>∃k:Nat,k<=b.length/\i=.int .i64 k/\Hid (a.take k=b.take k)/\M.w0 W) (fun i _=>b.length-(intOf i).toNat)
  case atStart=>exact⟨0,Nu _,rfl,rfl,M⟩
  obtain⟨k,hk,rfl,HA,M⟩:=hrel
  simp only[Sep.w0]at M
  by_cases al:k<b.length
  ·obtain⟨x,hx⟩:=gx (l:=a) (i:=k)
   obtain⟨y,hy⟩:=gx (l:=b) (i:=k) al
   have ag:=fun W=>HN.out x y W
   try dsimp only at ag
   cases ab:eqB x y
   all_goals
    rw[ab]at ag
    try(have hq:=pQ x y;rw[ab]at hq)
    try(have hq:=Fx x y;rw[ab]at hq)
    go_wp2_with refine mz M fun M=>?_
    refine mg M [0,1,2,3,4,5,6,7,8] fun _ M=>?_
    repeat(first|refine sz M fun M=>?_|refine sj M fun M=>?_|refine sQ ?_)
    try refine aj ?_
    go_wp2_with refine mz M fun M=>?_
   ·refine mr M ⟨?_,M.bel⟩
    rw[<-HR.out,fG (Fw hx hy (fun e=>by rw[eZ e]at ab;cases ab))];rfl
   go_roundw
   case rel=>exact⟨k+1,by omega,by go_num,Fv HA.out hx hy (ko.1 ab),M⟩
   case measure=>simp[intOf];omega
  go_wp2_with refine mz M fun M=>?_
  refine mr M ⟨?_,M.bel⟩
  rw[<-HR.out,eZ (by have:=HA.out;rwa[Ny (by omega),Ny (by omega)]at this)];rfl
instance:@EqT 90 _ 4 aT:=ij.1 ig.1
instance:@EqT 132 _ 7 aG:=ij.2.1 ig.2.1
instance:@EqT 133 _ 3 cQ:=ij.2.2.1 ig.2.2.1
instance:@EqT 83 _ 8 aW:=ij.2.2.2.1 ig.2.2.2.1
instance:@EqT 84 _ 6 dw:=ij.2.2.2.2.1 ig.2.2.2.2.1
instance:@EqT 86 _ 4 dF:=ij.2.2.2.2.2.1 ig.2.2.2.2.2.1
instance:@EqT 93 _ 4 eX:=ij.2.2.2.2.2.2.1 ig.2.2.2.2.2.2.1
instance:@EqT 45 _ 6 au:=ij.2.2.2.2.2.2.2.1 ig.2.2.2.2.2.2.2.1
instance:@EqT 85 _ 1 bF:=ij.2.2.2.2.2.2.2.2.1 ig.2.2.2.2.2.2.2.2.1
instance:@EqT 43 _ 1 af:=ij.2.2.2.2.2.2.2.2.2 ig.2.2.2.2.2.2.2.2.2
end
def idxI{α:Type}(p:α->Bool)(l:List α):Int:=match l.findIdx? p with|some k=>(k:Int)|none=> -1
def xw{α:Type}{p:α->Bool}{l:List α}{k:Nat}{x:α}(h:∀y∈l.take k,p y=false)(hx:l[k]? = some x)(hp:p x=true):l.findIdx? p=some k:=by
 rw[OF];obtain⟨hk,e⟩:=NQ.1 hx;refine⟨hk,by rw[e];exact hp,fun j hj=>?_⟩;rw[Bool.not_eq_true];exact h _ (by rw[List.mem_take_iff_getElem];exact⟨j,by omega,rfl⟩)
def xz{α:Type}{p:α->Bool}{l:List α}(h:∀y∈l,p y=false):l.findIdx? p=none:=by
 rw[List.findIdx?_eq_none_iff];exact h
def sM{α:Type}{p:α->Bool}{l:List α}{k:Nat}{x:α}(h:∀y∈l.take k,p y=false)(hx:l[k]? = some x)(hp:p x=false):∀y∈l.take (k+1),p y=false:=by
 intro y hy;rw[Ox,hx,Of]at hy;rcases hy with hy|hy
 ·exact h y hy
 ·simp only[Option.toList,Og,Oh,or_false]at hy;subst hy;exact hp
def xA(v)(L:List aC)(fn:FuncId)(cap)(p:aC->Bool)(w)(an:∀(args)(W),(callFunc fn args).run prog W=.ok (.enter fn args) W)(hL:RowC w 8 v (L.map aW))(hl:L.length<=1048576)(hp:∀(u:aC)(W),eB w W->Calls prog fn (#[.agg #[.string u.name,.string u.of,.int .i64 u.n,.int .i64 u.d,.int .i64 u.base,.bool u.neg,.string u.sn,.string u.sd]]++cap) W (Ret W (.bool (p u)))) :Calls prog 147 #[v,.func (.func fn) #[] cap] w (Ret w (.int .i64 (idxI p L))):=by
 obtain⟨A,c,rfl,ac,h⟩:=hL;rw[N6]at ac⊢;have H:=MY h;have HP:=MY hp;obtain⟨n,hn⟩:=nm L.length;have HN:=MY hn;rw[hn]at hl ac⊢;obtain⟨res,ad⟩:=nm (idxI p L);have HR:=MY ad;rw[ad];go_enter func147,ntmps147;go_wp2_with fail;go_loopw [8] (fun i W=>∃k:Nat,k<=n/\i=.int .i64 k/\Hid (∀y∈L.take k,p y=false)/\eB w W) (fun i _=>n-(intOf i).toNat)
 case atStart=>exact⟨0,Nu _,rfl,by simp[Hid],NB _ _⟩
 case round=>
  obtain⟨k,hk,rfl,HA,hB⟩:=hrel;have B:=MY hB;by_cases av:k<n
  ·obtain⟨x,hx⟩:=gx (l:=L) (i:=k) (by have:=HN.out;omega);obtain⟨bb,off,rfl,ab,hc⟩:=H.out k (aW x) (by rw[Ou,hx];rfl);have HC:=MY (HP.out x wr B.out);have HX:=MY hx;have c0:=(B.cell (p:=⟨bb,_,none⟩) ab).trans (hc 0 _ rfl);have c1:=(B.cell (p:=⟨bb,_,none⟩) ab).trans (hc 1 _ rfl);have c2:=(B.cell (p:=⟨bb,_,none⟩) ab).trans (hc 2 _ rfl);have c3:=(B.cell (p:=⟨bb,_,none⟩) ab).trans (hc 3 _ rfl);have c4:=(B.cell (p:=⟨bb,_,none⟩) ab).trans (hc 4 _ rfl);have c5:=(B.cell (p:=⟨bb,_,none⟩) ab).trans (hc 5 _ rfl);have c6:=(B.cell (p:=⟨bb,_,none⟩) ab).trans (hc 6 _ rfl);have c7:=(B.cell (p:=⟨bb,_,none⟩) ab).trans (hc 7 _ rfl);simp only[Na]at c0;obtain⟨ao,ar⟩:=ix (k:=k) (n:=n);obtain⟨t,ht⟩:=nm (p x);have HT:=MY ht;rw[ht]at HC
   cases t with
   |true=>
    go_wp2_with fail
    refine HC.mono ?_
    rintro e w1 ⟨rfl,ag⟩
    have B1:=MY (B.trans (ag.mono B.size))
    go_wp2
    go_ret
    exact⟨by rw[<-HR.out];unfold idxI;rw[xw HA.out HX.out HT.out];rfl,B1.out⟩
   |false=>
    have al:=MY (sM HA.out HX.out HT.out)
    go_wp2_with fail
    refine HC.mono ?_
    rintro e w1 ⟨rfl,ag⟩
    have B1:=MY (B.trans (ag.mono B.size))
    go_wp2
    go_roundw
    case rel=>exact⟨k+1,by omega,by go_num,al,B1.out⟩
    case measure=>simp[intOf];omega
  ·obtain rfl:k=n:=by omega
   have E:Hid (res= -1):=by
    show _=_;rw[<-HR.out];unfold idxI;rw[xz (fun y hy=>HA.out y (by rw[Ny (by have:=HN.out;omega)];exact hy))]
   go_wp2;go_ret;exact⟨by rw[E.out];rfl,B.out⟩
def xB{α:Type}(p:α->Bool)(l:List α):decide (0<=idxI p l)=l.any p:=by
 unfold idxI
 cases h:l.findIdx? p with
 |some k=>
  obtain⟨hk,h1,_⟩:=OF.1 h
  have:l.any p=true:=List.any_eq_true.2 ⟨_,OG hk,h1⟩
  rw[this];simp
 |none=>
  have:=List.findIdx?_eq_none_iff.1 h
  have:l.any p=false:=by rw[List.any_eq_false];intro x hx;simp[this x hx]
  rw[this];simp
def Fy(v)(L:List aC)(fn:FuncId)(cap)(p:aC->Bool)(w)(ac:∀(args)(W),(callFunc fn args).run prog W=.ok (.enter fn args) W)(hL:RowC w 8 v (L.map aW))(hl:L.length<=1048576)(hp:∀(u:aC)(W),eB w W->Calls prog fn (#[.agg #[.string u.name,.string u.of,.int .i64 u.n,.int .i64 u.d,.int .i64 u.base,.bool u.neg,.string u.sn,.string u.sd]]++cap) W (Ret W (.bool (p u)))) :Calls prog 213 #[v,.func (.func fn) #[] cap] w (Ret w (.bool (L.any p))):=by
 have HI:=MY (xA v L fn cap p w ac hL hl hp);rw[<-xB];generalize idxI p L=z at *;by_cases hz:0<=z;all_goals
  first|(have t1:decide (0<=z)=true:=by simpa using hz)|(have t1:decide (0<=z)=false:=by simpa using hz)
  go_enter func213,ntmps213
  go_wp2_with fail
  refine HI.mono ?_
  rintro e w1 ⟨rfl,ab⟩
  have B1:=MY ab
  go_wp2
  go_ret
  exact⟨by first|rfl|(rw[t1];rfl),B1.out⟩
def Fz(b:Nat)(s)(w:World)(hc:w.cell? ⟨b,0,none⟩=some (.string s))(hb:b<w.heap.size)(u:aC)(W)(hW:eB w W) :Calls prog 214 #[.agg #[.string u.name,.string u.of,.int .i64 u.n,.int .i64 u.d,.int .i64 u.base,.bool u.neg,.string u.sn,.string u.sd],.pointer b] W (Ret W (.bool (decide (u.name=s)))):=by
 have q0:=(hW.cell (p:=⟨b,0,none⟩) hb).trans hc;have ag:=hW.size;have ab:b<W.heap.size:=by omega
 have ac:¬W.heap.size=b:=by omega
 have ad:¬b=W.heap.size:=by omega
 have E:Hid (decide (u.name=s)=(u.name.toList==s.toList)):=by
  show _=_;by_cases h:u.name=s
  ·subst h;simp
  ·have:¬u.name.toList=s.toList:=by rw[toList_inj];exact h
   simp[h,this]
 go_enter func214,ntmps214;go_wp2;go_ret;exact⟨by rw[E.out];rfl,(NB _ _).alloc (No _) _⟩
def lD(L:List aC)(k:Nat):Bool:=match L[k]? with|some u=>(L.take k).any fun v=>decide (v.name=u.name)|none=>false
def xC(L:List aC):jF L=(List.range L.length).any (lD L):=rfl
def FA{L:List aC}{k:Nat}(hk:k<L.length)(h:lD L k=true):jF L=true:=by
 rw[xC];exact List.any_eq_true.2 ⟨k,OH.2 hk,h⟩
def FB{L:List aC}(h:∀j,j<L.length->lD L j=false):jF L=false:=by
 rw[xC,List.any_eq_false];intro j hj;simp[h j (OH.1 hj)]
def FC(v)(L:List aC)(w)(hL:RowC w 8 v (L.map aW))(hl:L.length<=1048576):Calls prog 145 #[v] w (Ret w (.bool (jF L))):=by
 have ac:=MY hL;obtain⟨A,c,rfl,ad,h⟩:=hL;rw[N6]at ad ac⊢;have H:=MY h;obtain⟨n,hn⟩:=nm L.length;have HN:=MY hn;rw[hn]at hl ad ac⊢;obtain⟨res,ag⟩:=nm (jF L);have HR:=MY ag;rw[ag];have aA:=mF;go_enter func145,ntmps145;go_wp2_with fail;go_loopw [7] (fun i W=>∃k:Nat,k<=n/\i=.int .i64 k/\Hid (∀j,j<k->lD L j=false)/\eB w W) (fun i _=>n-(intOf i).toNat)
 case atStart=>exact⟨0,Nu _,rfl,by intro j hj;omega,NB _ _⟩
 case round=>
  obtain⟨k,hk,rfl,HA,hB⟩:=hrel;have B:=MY hB;by_cases ax:k<n
  ·obtain⟨x,hx⟩:=gx (l:=L) (i:=k) (by have:=HN.out;omega);obtain⟨bb,off,rfl,ab,hc⟩:=H.out k (aW x) (by rw[Ou,hx];rfl);have c0:=(B.cell (p:=⟨bb,_,none⟩) ab).trans (hc 0 _ rfl);have c1:=(B.cell (p:=⟨bb,_,none⟩) ab).trans (hc 1 _ rfl);have c2:=(B.cell (p:=⟨bb,_,none⟩) ab).trans (hc 2 _ rfl);have c3:=(B.cell (p:=⟨bb,_,none⟩) ab).trans (hc 3 _ rfl);have c4:=(B.cell (p:=⟨bb,_,none⟩) ab).trans (hc 4 _ rfl);have c5:=(B.cell (p:=⟨bb,_,none⟩) ab).trans (hc 5 _ rfl);have c6:=(B.cell (p:=⟨bb,_,none⟩) ab).trans (hc 6 _ rfl);have c7:=(B.cell (p:=⟨bb,_,none⟩) ab).trans (hc 7 _ rfl);simp only[Na]at c0;obtain⟨ar,av⟩:=ix (k:=k) (n:=n);have HT:Hid (lD L k=(L.take k).any fun v=>decide (v.name=x.name)):=by show _=_;simp only[lD,hx]
   have HC:=MY (fun(W:World)(hW:eB w W) (b:Nat) (h0:W.cell? ⟨b,0,none⟩=some (.string x.name)) (hb:b<W.heap.size)=>
    Fy (.slice (some ⟨bb,off,none⟩) k c) (L.take k) 214 #[.pointer b] (fun v=>decide (v.name=x.name)) W (fun _ _=>rfl)
     (by have:=(ac.below hW).take k (by omega);rwa[List.map_take]) (by rw[Nz];omega) (fun u W' an=>Fz b x.name W h0 hb u W' an))
   obtain⟨t,ht⟩:=nm ((L.take k).any fun v=>decide (v.name=x.name));rw[ht]at HC HT;have ao:k<=c:=by omega
   cases t with
   |true=>
    go_wp2_with fail
    refine(HC.out _ (B.alloc B.size _) _ ?_ ?_).mono ?_
    ·simp[go_sem]
    ·simp
    rintro e w1 ⟨rfl,al⟩
    have B1:=MY ((B.alloc B.size _).trans (al.mono (by have:=B.size;simp;omega)))
    go_wp2
    go_ret
    exact⟨by rw[<-HR.out,FA (by have:=HN.out;omega) HT.out];rfl,B1.out⟩
   |false=>
    go_wp2_with fail
    refine(HC.out _ (B.alloc B.size _) _ ?_ ?_).mono ?_
    ·simp[go_sem]
    ·simp
    rintro e w1 ⟨rfl,al⟩
    have B1:=MY ((B.alloc B.size _).trans (al.mono (by have:=B.size;simp;omega)))
    go_wp2
    go_roundw
    case rel=>exact⟨k+1,by omega,by go_num,(fun j hj=>by rcases Nh j k with h|h;exact HA.out j h;have:j=k:=(by omega);rw[this];exact HT.out),B1.out⟩
    case measure=>simp[intOf];omega
  ·obtain rfl:k=n:=by omega
   go_wp2;go_ret;exact⟨by rw[<-HR.out,FB (fun j hj=>HA.out j (by have:=HN.out;omega))];rfl,B.out⟩
instance{w:World}{s:SrcR}[h:Fct (ap w s)]:ah w s.uv aC 8 s.units aW:=⟨h.1.units,h.1.ul⟩
instance{w:World}{s:SrcR}[h:Fct (ap w s)]:ah w s.iv dP 6 s.items dw:=⟨h.1.items,h.1.il⟩
instance{w:World}{s:SrcR}[h:Fct (ap w s)]:ah w s.pv ByteArray 1 s.plants bF:=⟨h.1.plants,h.1.pl⟩
instance{w:World}{s:SrcR}[h:Fct (ap w s)]:ah w s.mv eW 4 s.machs dF:=⟨h.1.machs,h.1.ml⟩
instance{w:World}{s:SrcR}[h:Fct (ap w s)]:ah w s.ov OptR 2 s.opts bX:=⟨h.1.opts,h.1.ol⟩
instance{w:World}{s:SrcR}[h:Fct (ap w s)]:ah w s.fv ForbR 1 s.forbs gc:=⟨h.1.forbs,h.1.fl⟩
instance{w:World}{s:SrcR}[h:Fct (ap w s)]:ah w s.rv RecR 17 s.recs am:=⟨h.1.recs,h.1.rl⟩
instance{w:World}{s:SrcR}[h:Fct (ap w s)]:ah w s.sv fD 4 s.swaps eX:=⟨h.1.swaps,h.1.sl⟩
section
variable {s:SrcR} {ok:Bool} {b i:Nat} {As:List Asn} {w w0:World}
theorem Con.pure{P}{f:FuncId}{args}{v}(h:∀w,Calls P f args w fun e w'=>e=.returned v/\w=w'):Con P f args As v As:=⟨fun w M=>(h w).mono fun _ _ ⟨h1,h2⟩=>⟨h1,h2▸M⟩⟩
instance{n l g:Int}:Con prog 189 #[.int .i64 n,.int .i64 l,.int .i64 g] As (.bool (btw n l g)) As:= .pure (Fm n l g)
instance{n:Int}{m:Nat}:Con prog 32 #[.int .i64 n,.int .i64 (m:Int)] As (.bool (aZ n m)) As:= .pure (Fl n m)
class Chk(As:List Asn)(b:outParam Nat)(s:outParam SrcR)(ok:outParam Bool)(i:outParam Nat):Prop where
 out:As[i]? = some (.box b (aX s ok) 204)
instance:Chk (.box b (aX s ok) 204::As) b s ok 0:=⟨rfl⟩
instance{A:Asn}[h:Chk As b s ok i]:Chk (A::As) b s ok (i+1):=⟨h.out⟩
instance{ab:Bool}[h:Chk As b s ok i]:Chk (As.set i (.box b (aX s ab) 204)) b s ab i:=⟨On (NQ.1 h.out).1⟩
instance[h:Chk As b s ok i]:Has As b (aX s ok) 204 i:=⟨h.out⟩
instance[h:Chk As b s ok i]:Ab As fun z=>As.set i (.box b (aX s z) 204):=⟨ok,by
 obtain⟨hi,h⟩:=NQ.1 h.out;rw[<-h,List.set_getElem_self]⟩
instance need_s(x:Bool)[Chk As b s ok i]:Con prog 188 #[.pointer b,.bool x] As (.tuple #[]) (As.set i (.box b (aX s (ok&&x)) 204)):=⟨fun w M=>by
 cases ok;all_goals
  go_enter func188,ntmps188
  go_wp2_with refine mz M fun M=>?_
  go_end0
  exact⟨rfl,M⟩⟩
instance item_s{x:dP}[Old As w0][Fct (ap w0 s)][Chk As b s ok i]:Con prog 187 #[.pointer b,.agg (dw x).toArray] As (.tuple #[]) (As.set i (.box b (aX s (ok&&eE s x)) 204)):=⟨fun w M=>by
 go_enter func187,ntmps187;go_wp2_with refine mz M fun M=>?_;refine mg M [0,1,2,3,4,5,6,7,8,1009,1010] fun _ M=>?_;repeat(first|refine sz M fun M=>?_|refine sj M fun M=>?_|refine sQ ?_)
 try refine aj ?_
 go_wp2_with refine mz M fun M=>?_;go_end0;exact⟨rfl,by simpa[eE,Om]using M.dr 1⟩⟩
instance share_s{n d:Int}[Chk As b s ok i]:Con prog 235 #[.pointer b,.int .i64 n,.int .i64 d] As (.tuple #[]) (As.set i (.box b (aX s (ok&&kj n d)) 204)):=⟨fun w M=>by
 go_enter func235,ntmps235;go_wp2_with refine mz M fun M=>?_;go_end0;exact⟨rfl,by simpa[kj,Om]using M⟩⟩
def nA{α:Type}{n:Int}{l:List α}(h:aZ n l.length=true):∃x,l[n.toNat]? = some x/\Hid (0<=n/\l[n.toNat]? = some x):=by
 obtain⟨k,rfl,hk⟩:=pK h;exact⟨l[k],by simp[Nx hk],by show _/\_;simp[Nx hk]⟩
instance base_s{n:Int}[Old As w0][Fct (ap w0 s)][Chk As b s ok i]:Con prog 237 #[.pointer b,.int .i64 n] As (.tuple #[.int .i64 ((baseO s n).getD 0),.bool (baseO s n).isSome]) As:=⟨fun w M=>by
 cases h:aZ n s.items.length
 case' true=>
  obtain⟨x,hx,_⟩:=nA h
  cases h2:aZ x.unitNo s.units.length
  case' true=>obtain⟨u,hu,_⟩:=nA h2
 all_goals
  go_enter func237,ntmps237
  go_wp2_with refine mz M fun M=>?_
  go_ret2
  exact⟨by simp[baseO, *],M⟩⟩
instance amount_s{x:aw}[Old As w0][Fct (ap w0 s)][Chk As b s ok i]:Con prog 233 #[.pointer b,.agg (aG x).toArray] As (.tuple #[]) (As.set i (.box b (aX s (ok&&bM s x)) 204)):=⟨fun w M=>by
 have fin:∀y W,Sep (As.set i (.box b (aX s (((ok&&btw x.n 1 1048576)&&btw x.d 1 1048576)&&y)) 204)) W->bM s x=((btw x.n 1 1048576&&btw x.d 1 1048576)&&y)->Sep (As.set i (.box b (aX s (ok&&bM s x)) 204)) W:=fun y W h e=>by
  simpa[e,Om]using h
 have HF:=MY fin;clear fin
 cases hb:baseO s x.itemNo
 case' some=>
  cases h2:aZ x.unitNo s.units.length
  case' true=>obtain⟨u,hu,_⟩:=nA h2
 all_goals
  go_enter func233,ntmps233
  go_wp2_with refine mz M fun M=>?_
  refine mg M [0,1,2,3,4,5,6,7,8,9,10,1011,12,13,14,15,16,17,18,19,20,21,22,23,24,25,26,1027] fun _ M=>?_
  repeat(first|refine sz M fun M=>?_|refine sj M fun M=>?_|refine sQ ?_)
  try refine aj ?_
  go_wp2_with refine mz M fun M=>?_
  go_end0
  exact⟨rfl,HF.out _ _ (M.dr 1) (by simp[bM, *])⟩⟩
end
def fI(l:List Int)(i j:Nat):Bool:=l[i]?==l[j]?
def lF(l:List Int):ki l=(List.range l.length).any fun i=>(List.range i).any (fI l i):=rfl
def lG{p:Nat->Bool}{k:Nat}(h:(List.range k).any p=false)(hk:p k=false):(List.range (k+1)).any p=false:=by rw[List.range_succ,List.any_append];simp[h,hk]
def lH{p:Nat->Bool}{k n:Nat}(hk:p k=true)(hn:k<n):(List.range n).any p=true:=List.any_eq_true.2 ⟨k,OH.2 hn,hk⟩
section
variable {s:SrcR} {ok:Bool} {b i:Nat} {As:List Asn} {w w0:World}
instance{u:aP}:Con prog 232 #[.agg (aT u).toArray] As (.int .i64 u.optNo) As:=⟨fun w M=>by
 go_enter func232,ntmps232;go_wp2_with refine mz M fun M=>?_;go_ret;exact⟨rfl,M.dr 1⟩⟩
instance{v:Value}{L:List aP}[Old As w0][h:ah w0 v aP 4 L aT]:Con prog 231 #[v,.func (.func 232) #[] #[]] As (.bool (ki (L.map (·.optNo)))) As:=⟨fun w M=>by
 obtain⟨A,c,rfl⟩:=h.sl;have hl:=h.le;obtain⟨ns,ac⟩:=nm (L.map (·.optNo));have HT:Hid (∀(i:Nat)(x:aP),L[i]? = some x->ns[i]? = some x.optNo):=fun i x h=>by rw[<-ac,Ou,h];rfl
 have HN:Hid (ns.length=L.length):=by show _=_;rw[<-ac,N6]
 rw[ac];clear ac;obtain⟨n,hn⟩:=nm L.length;rw[hn]at h hl HN⊢;have an:=h.1.cap;go_enter func231,ntmps231;go_wp2_with refine mz M fun M=>?_;refine wp_scope_straight ?_;go_wp2_with refine mz M fun M=>?_;refine wp_label ?_;go_wp2_with refine mz M fun M=>?_;go_loopw [5,12] (fun d z W=>∃k:Nat,k<=n/\d=.bool false/\z=.int .i64 k/\M.w0 W/\Hid ((List.range k).any (fun i=>(List.range i).any (fI ns i))=false)) (fun _ z _=>n-(intOf z).toNat)
 case atStart=>exact⟨0,by omega,rfl,rfl,M,rfl⟩
 case round=>
  obtain⟨k,hk,rfl,rfl,M,hs⟩:=hrel;replace M:Sep _ _:=M;by_cases ao:k<n
  case neg=>
   obtain rfl:n=k:=by omega
   go_wp2_with refine mz M fun M=>?_;rw[NE];go_ret;exact⟨by rw[lF,HN.out,hs.out];rfl,M⟩
  obtain⟨x,hx⟩:=gx (l:=L) (i:=k) (by have:=hn;omega);obtain⟨b,o,rfl,_⟩:=h.1.el hx;haveI:=h.tk hk;obtain⟨Lk,ab⟩:=nm (L.take k);rw[ab]at this;have HK:Hid (∀(j:Nat)(y:aP),Lk[j]? = some y->j<k/\L[j]? = some y):=fun j y h=>by
   rw[<-ab,NR]at h;split at h
   ·exact⟨by omega,h⟩
   ·cases h
  have ar:Lk.length=k:=by rw[<-ab,Nz];have:=hn;omega
  clear ab;have av:(k:Int)<=(c:Int):=by omega
  go_wp2_with refine mz M fun M=>?_;go_loopw [5,21] (fun d z W=>∃j:Nat,j<=k/\d=.bool false/\z=.int .i64 j/\M.w0 W/\Hid ((List.range j).any (fI ns k)=false)) (fun _ z _=>k-(intOf z).toNat)
  case atStart=>exact⟨0,by omega,rfl,rfl,M,rfl⟩
  case round=>
   obtain⟨j,hj,rfl,rfl,M,al⟩:=hrel;replace M:Sep _ _:=M;by_cases ad:j<k
   case neg=>
    obtain rfl:k=j:=by omega
    go_wp2_with refine mz M fun M=>?_;go_roundw
    case rel=>exact⟨k+1,by omega,rfl,by go_num,M.dr 1,lG hs.out al.out⟩
    case measure=>simp[intOf];omega
   obtain⟨y,hy⟩:=gx (l:=Lk) (i:=j);have ag:Hid (fI ns k j=(x.optNo==y.optNo)):=by show _=_;simp[fI,HT.out k x hx,HT.out j y (HK.out j y hy).2]
   go_wp2_with refine mz M fun M=>?_;refine mg M [0,1,3,4,1002,1005,6] fun _ M=>?_;repeat(first|refine sz M fun M=>?_|refine sj M fun M=>?_|refine sQ ?_)
   try refine aj ?_
   by_cases e:x.optNo=y.optNo
   case pos=>
    have e1:(x.optNo==y.optNo)=true:=by simpa using e
    go_wp2_with refine mz M fun M=>?_;rw[NE];go_ret;exact⟨by rw[lF,lH (k:=k) (lH (ag.trans e1) ad) (by rw[HN.out];exact ao)];rfl,M.dr 2⟩
   have e1:(x.optNo==y.optNo)=false:=by simpa using e
   go_wp2_with refine mz M fun M=>?_;go_roundw
   case rel=>exact⟨j+1,by omega,rfl,by go_num,M.dr 1,lG al.out (ag.trans e1)⟩
   case measure=>simp[intOf];omega⟩
instance{u:aw}:Con prog 258 #[.agg (aG u).toArray] As (.int .i64 u.itemNo) As:=⟨fun w M=>by
 go_enter func258,ntmps258;go_wp2_with refine mz M fun M=>?_;go_ret;exact⟨rfl,M.dr 1⟩⟩
instance{v:Value}{L:List aw}[Old As w0][h:ah w0 v aw 7 L aG]:Con prog 257 #[v,.func (.func 258) #[] #[]] As (.bool (ki (L.map (·.itemNo)))) As:=⟨fun w M=>by
 obtain⟨A,c,rfl⟩:=h.sl;have hl:=h.le;obtain⟨ns,ac⟩:=nm (L.map (·.itemNo));have HT:Hid (∀(i:Nat)(x:aw),L[i]? = some x->ns[i]? = some x.itemNo):=fun i x h=>by rw[<-ac,Ou,h];rfl
 have HN:Hid (ns.length=L.length):=by show _=_;rw[<-ac,N6]
 rw[ac];clear ac;obtain⟨n,hn⟩:=nm L.length;rw[hn]at h hl HN⊢;have an:=h.1.cap;go_enter func257,ntmps257;go_wp2_with refine mz M fun M=>?_;refine wp_scope_straight ?_;go_wp2_with refine mz M fun M=>?_;refine wp_label ?_;go_wp2_with refine mz M fun M=>?_;go_loopw [5,12] (fun d z W=>∃k:Nat,k<=n/\d=.bool false/\z=.int .i64 k/\M.w0 W/\Hid ((List.range k).any (fun i=>(List.range i).any (fI ns i))=false)) (fun _ z _=>n-(intOf z).toNat)
 case atStart=>exact⟨0,by omega,rfl,rfl,M,rfl⟩
 case round=>
  obtain⟨k,hk,rfl,rfl,M,hs⟩:=hrel;replace M:Sep _ _:=M;by_cases ao:k<n
  case neg=>
   obtain rfl:n=k:=by omega
   go_wp2_with refine mz M fun M=>?_;rw[NE];go_ret;exact⟨by rw[lF,HN.out,hs.out];rfl,M⟩
  obtain⟨x,hx⟩:=gx (l:=L) (i:=k) (by have:=hn;omega);obtain⟨b,o,rfl,_⟩:=h.1.el hx;haveI:=h.tk hk;obtain⟨Lk,ab⟩:=nm (L.take k);rw[ab]at this;have HK:Hid (∀(j:Nat)(y:aw),Lk[j]? = some y->j<k/\L[j]? = some y):=fun j y h=>by
   rw[<-ab,NR]at h;split at h
   ·exact⟨by omega,h⟩
   ·cases h
  have ar:Lk.length=k:=by rw[<-ab,Nz];have:=hn;omega
  clear ab;have av:(k:Int)<=(c:Int):=by omega
  go_wp2_with refine mz M fun M=>?_;go_loopw [5,21] (fun d z W=>∃j:Nat,j<=k/\d=.bool false/\z=.int .i64 j/\M.w0 W/\Hid ((List.range j).any (fI ns k)=false)) (fun _ z _=>k-(intOf z).toNat)
  case atStart=>exact⟨0,by omega,rfl,rfl,M,rfl⟩
  case round=>
   obtain⟨j,hj,rfl,rfl,M,al⟩:=hrel;replace M:Sep _ _:=M;by_cases ad:j<k
   case neg=>
    obtain rfl:k=j:=by omega
    go_wp2_with refine mz M fun M=>?_;go_roundw
    case rel=>exact⟨k+1,by omega,rfl,by go_num,M.dr 1,lG hs.out al.out⟩
    case measure=>simp[intOf];omega
   obtain⟨y,hy⟩:=gx (l:=Lk) (i:=j);have ag:Hid (fI ns k j=(x.itemNo==y.itemNo)):=by show _=_;simp[fI,HT.out k x hx,HT.out j y (HK.out j y hy).2]
   go_wp2_with refine mz M fun M=>?_;refine mg M [0,1,3,4,1002,1005,6] fun _ M=>?_;repeat(first|refine sz M fun M=>?_|refine sj M fun M=>?_|refine sQ ?_)
   try refine aj ?_
   by_cases e:x.itemNo=y.itemNo
   case pos=>
    have e1:(x.itemNo==y.itemNo)=true:=by simpa using e
    go_wp2_with refine mz M fun M=>?_;rw[NE];go_ret;exact⟨by rw[lF,lH (k:=k) (lH (ag.trans e1) ad) (by rw[HN.out];exact ao)];rfl,M.dr 2⟩
   have e1:(x.itemNo==y.itemNo)=false:=by simpa using e
   go_wp2_with refine mz M fun M=>?_;go_roundw
   case rel=>exact⟨j+1,by omega,rfl,by go_num,M.dr 1,lG al.out (ag.trans e1)⟩
   case measure=>simp[intOf];omega⟩
instance{u:cO}:Con prog 260 #[.agg (cQ u).toArray] As (.int .i64 u.machNo) As:=⟨fun w M=>by
 go_enter func260,ntmps260;go_wp2_with refine mz M fun M=>?_;go_ret;exact⟨rfl,M.dr 1⟩⟩
instance{v:Value}{L:List cO}[Old As w0][h:ah w0 v cO 3 L cQ]:Con prog 259 #[v,.func (.func 260) #[] #[]] As (.bool (ki (L.map (·.machNo)))) As:=⟨fun w M=>by
 obtain⟨A,c,rfl⟩:=h.sl;have hl:=h.le;obtain⟨ns,ac⟩:=nm (L.map (·.machNo));have HT:Hid (∀(i:Nat)(x:cO),L[i]? = some x->ns[i]? = some x.machNo):=fun i x h=>by rw[<-ac,Ou,h];rfl
 have HN:Hid (ns.length=L.length):=by show _=_;rw[<-ac,N6]
 rw[ac];clear ac;obtain⟨n,hn⟩:=nm L.length;rw[hn]at h hl HN⊢;have an:=h.1.cap;go_enter func259,ntmps259;go_wp2_with refine mz M fun M=>?_;refine wp_scope_straight ?_;go_wp2_with refine mz M fun M=>?_;refine wp_label ?_;go_wp2_with refine mz M fun M=>?_;go_loopw [5,12] (fun d z W=>∃k:Nat,k<=n/\d=.bool false/\z=.int .i64 k/\M.w0 W/\Hid ((List.range k).any (fun i=>(List.range i).any (fI ns i))=false)) (fun _ z _=>n-(intOf z).toNat)
 case atStart=>exact⟨0,by omega,rfl,rfl,M,rfl⟩
 case round=>
  obtain⟨k,hk,rfl,rfl,M,hs⟩:=hrel;replace M:Sep _ _:=M;by_cases ao:k<n
  case neg=>
   obtain rfl:n=k:=by omega
   go_wp2_with refine mz M fun M=>?_;rw[NE];go_ret;exact⟨by rw[lF,HN.out,hs.out];rfl,M⟩
  obtain⟨x,hx⟩:=gx (l:=L) (i:=k) (by have:=hn;omega);obtain⟨b,o,rfl,_⟩:=h.1.el hx;haveI:=h.tk hk;obtain⟨Lk,ab⟩:=nm (L.take k);rw[ab]at this;have HK:Hid (∀(j:Nat)(y:cO),Lk[j]? = some y->j<k/\L[j]? = some y):=fun j y h=>by
   rw[<-ab,NR]at h;split at h
   ·exact⟨by omega,h⟩
   ·cases h
  have ar:Lk.length=k:=by rw[<-ab,Nz];have:=hn;omega
  clear ab;have av:(k:Int)<=(c:Int):=by omega
  go_wp2_with refine mz M fun M=>?_;go_loopw [5,21] (fun d z W=>∃j:Nat,j<=k/\d=.bool false/\z=.int .i64 j/\M.w0 W/\Hid ((List.range j).any (fI ns k)=false)) (fun _ z _=>k-(intOf z).toNat)
  case atStart=>exact⟨0,by omega,rfl,rfl,M,rfl⟩
  case round=>
   obtain⟨j,hj,rfl,rfl,M,al⟩:=hrel;replace M:Sep _ _:=M;by_cases ad:j<k
   case neg=>
    obtain rfl:k=j:=by omega
    go_wp2_with refine mz M fun M=>?_;go_roundw
    case rel=>exact⟨k+1,by omega,rfl,by go_num,M.dr 1,lG hs.out al.out⟩
    case measure=>simp[intOf];omega
   obtain⟨y,hy⟩:=gx (l:=Lk) (i:=j);have ag:Hid (fI ns k j=(x.machNo==y.machNo)):=by show _=_;simp[fI,HT.out k x hx,HT.out j y (HK.out j y hy).2]
   go_wp2_with refine mz M fun M=>?_;refine mg M [0,1,3,4,1002,1005,6] fun _ M=>?_;repeat(first|refine sz M fun M=>?_|refine sj M fun M=>?_|refine sQ ?_)
   try refine aj ?_
   by_cases e:x.machNo=y.machNo
   case pos=>
    have e1:(x.machNo==y.machNo)=true:=by simpa using e
    go_wp2_with refine mz M fun M=>?_;rw[NE];go_ret;exact⟨by rw[lF,lH (k:=k) (lH (ag.trans e1) ad) (by rw[HN.out];exact ao)];rfl,M.dr 2⟩
   have e1:(x.machNo==y.machNo)=false:=by simpa using e
   go_wp2_with refine mz M fun M=>?_;go_roundw
   case rel=>exact⟨j+1,by omega,rfl,by go_num,M.dr 1,lG al.out (ag.trans e1)⟩
   case measure=>simp[intOf];omega⟩
end
section
variable {s:SrcR} {r:RecR} {ok:Bool} {b i:Nat} {As:List Asn} {w w0:World}
instance[h:Fct (aQ w r)]:ah w r.ifv aP 4 r.ifs aT:=⟨h.1.ifs,h.1.ifl⟩
instance[h:Fct (aQ w r)]:ah w r.inv aw 7 r.ins aG:=⟨h.1.ins,h.1.inl⟩
instance[h:Fct (aQ w r)]:ah w r.outv aw 7 r.outs aG:=⟨h.1.outs,h.1.outl⟩
instance[h:Fct (aQ w r)]:ah w r.runv cO 3 r.runs cQ:=⟨h.1.runs,h.1.runl⟩
def sY[h:Chk As b s ok i]:As.set i (.box b (aX s ok) 204)=As:=by
 obtain⟨hi,h⟩:=NQ.1 h.out;rw[<-h,List.set_getElem_self]
def ik{α:Type}{p:α->Bool}{l:List α}{k:Nat}{x:α}(h:l[k]? = some x):(l.take (k+1)).all p=((l.take k).all p&&p x):=by
 rw[Ox,h,List.all_append];simp
instance conds_s{v:Value}{l:List aP}[Old As w0][hS:Fct (ap w0 s)][hl:ah w0 v aP 4 l aT][Chk As b s ok i]:Con prog 190 #[.pointer b,v] As (.tuple #[]) (As.set i (.box b (aX s (ok&&ic s l)) 204)):=⟨fun w M=>by
 have hL:=hl.le;obtain⟨n,hn⟩:=nm l.length;rw[hn]at hL;go_enter func190,ntmps190;go_wp2_with refine mz M fun M=>?_;go_loopw [8] (fun z W=>∃k:Nat,k<=n/\z=.int .i64 k/\Sep (As.set i (.box b (aX s (ok&&(l.take k).all (lC s))) 204)) W) (fun z _=>n-(intOf z).toNat)
 case atStart=>exact⟨0,by omega,rfl,by rw[N3,List.all_nil,Bool.and_true,sY];exact M⟩
 case round=>
  obtain⟨k,hk,rfl,M⟩:=hrel;by_cases ab:k<n
  case neg=>
   obtain rfl:n=k:=by omega
   go_wp2_with refine mz M fun M=>?_;go_end0;exact⟨rfl,by rw[Ny (by omega)]at M;simpa[ic,Om]using M⟩
  obtain⟨x,hx⟩:=gx (l:=l) (i:=k)
  cases h1:aZ x.optNo s.opts.length
  case' true=>
   obtain⟨o,ho,_⟩:=nA h1;haveI:ah w0 o.cv ByteArray 1 o.choices bF:=let h:=hS.1.opt o (Oc ho);⟨h.1,h.2⟩
  all_goals
   go_wp2_with refine mz M fun M=>?_
   refine mg M [0,1,2,3,4,5,6,7,8,1009,10,11,12,13,14,15,16,17,18,19,20,21,22,23,1024,25,1026] fun _ M=>?_
   repeat(first|refine sz M fun M=>?_|refine sj M fun M=>?_|refine sQ ?_)
   try refine aj ?_
   go_wp2_with refine mz M fun M=>?_
   go_roundw
   case rel=>exact⟨k+1,by omega,by go_num,by rw[ik hx];simpa[lC,Om, *]using M.dr 1⟩
   case measure=>simp[intOf];omega⟩
instance outputs_s[Old As w0][Fct (ap w0 s)][hR:Fct (aQ w0 r)][Chk As b s ok i]:Con prog 234 #[.pointer b,.agg (am r).toArray] As (.tuple #[]) (As.set i (.box b (aX s (ok&&km s r)) 204)):=⟨fun w M=>by
 have hL:=hR.1.outl;unfold BIG at hL;obtain⟨n,hn⟩:=nm r.outs.length;rw[hn]at hL;by_cases hp:0<n
 case' pos=>
  obtain⟨a0,ha⟩:=gx (l:=r.outs) (i:=0);have ab:Hid ((0:Int)<=0/\r.outs[(0:Int).toNat]? = some a0):=⟨by omega,ha⟩
 case' neg=>have ha:r.outs[0]? = none:=OJ (by omega)
 all_goals
  go_enter func234,ntmps234
  go_wp2_with refine mz M fun M=>?_
  refine mg M [0,1,2,3,4,5,6,7,8,9,10,11,12,13,14,1015] fun _ M=>?_
  repeat(first|refine sz M fun M=>?_|refine sj M fun M=>?_|refine sQ ?_)
  try refine aj ?_
  obtain⟨o1,h1,M⟩:∃o1,o1=(ok&&(match r.outs[0]? with|some a=>a.itemNo==r.itemNo|none=>false))/\Sep (.box _ _ _::As.set i (.box b (aX s (o1)) 204)) _:=⟨_,by simp[ha],M⟩
  replace h1:=MY h1
  replace ha:=MY ha
  try clear ab
  clear hp
  go_wp2_with refine mz M fun M=>?_
  go_loopw [25] (fun z W=>∃k:Nat,k<=n/\z=.int .i64 k/\M.h1 (As.set i (.box b (aX s (o1&&(r.outs.take k).all fun a=>bM s a&& !a.back)) 204)) W) (fun z _=>n-(intOf z).toNat)
  case atStart=>exact⟨0,by omega,rfl,by rw[N3,List.all_nil,Bool.and_true];exact M⟩
  case round=>
   obtain⟨k,hk,rfl,M⟩:=hrel
   replace M:Sep (_::_) _:=M
   by_cases ac:k<n
   case neg=>
    obtain rfl:n=k:=by omega
    go_wp2_with refine mz M fun M=>?_
    go_end0
    exact⟨rfl,by rw[Ny (by omega)]at M;simpa[km,h1.out,ha.out,Om]using M.dr 1⟩
   obtain⟨x,hx⟩:=gx (l:=r.outs) (i:=k)
   go_wp2_with refine mz M fun M=>?_
   go_roundw
   case rel=>exact⟨k+1,by omega,by go_num,by rw[ik hx];show Sep (_::_) _;simpa[Om]using M.dr 1⟩
   case measure=>simp[intOf];omega⟩
instance runs_s[Old As w0][Fct (ap w0 s)][hR:Fct (aQ w0 r)][Chk As b s ok i]:Con prog 236 #[.pointer b,.agg (am r).toArray] As (.tuple #[]) (As.set i (.box b (aX s (ok&&nj s r)) 204)):=⟨fun w M=>by
 have hL:=hR.1.runl;unfold BIG at hL;obtain⟨n,hn⟩:=nm r.runs.length;rw[hn]at hL;go_enter func236,ntmps236;go_wp2_with refine mz M fun M=>?_;go_loopw [9] (fun z W=>∃k:Nat,k<=n/\z=.int .i64 k/\M.h1 (As.set i (.box b (aX s (ok&&(r.runs.take k).all (nh s r))) 204)) W) (fun z _=>n-(intOf z).toNat)
 case atStart=>exact⟨0,by omega,rfl,by rw[N3,List.all_nil,Bool.and_true,sY];exact M⟩
 case round=>
  obtain⟨k,hk,rfl,M⟩:=hrel;replace M:Sep (_::_) _:=M;by_cases ab:k<n
  case neg=>
   obtain rfl:n=k:=by omega
   go_wp2_with refine mz M fun M=>?_;go_end0;exact⟨rfl,by rw[Ny (by omega)]at M;simpa[nj,Om]using M.dr 1⟩
  obtain⟨x,hx⟩:=gx (l:=r.runs) (i:=k)
  cases h1:aZ x.machNo s.machs.length
  case' true=>obtain⟨o,ho,_⟩:=nA h1
  all_goals
   go_wp2_with refine mz M fun M=>?_
   refine mg M [0,1,2,3,4,5,6,7,8,1009,10,11,12,13,14,15,16,17,18,19,20,21,22,23,24,1025] fun _ M=>?_
   repeat(first|refine sz M fun M=>?_|refine sj M fun M=>?_|refine sQ ?_)
   try refine aj ?_
   go_wp2_with refine mz M fun M=>?_
   go_roundw
   case rel=>exact⟨k+1,by omega,by go_num,by rw[ik hx];show Sep (_::_) _;simpa[nh,Om, *]using M.dr 1⟩
   case measure=>simp[intOf];omega⟩
instance swap_s{x:fD}[Old As w0][Fct (ap w0 s)][Chk As b s ok i]:Con prog 192 #[.pointer b,.agg (eX x).toArray] As (.tuple #[]) (As.set i (.box b (aX s (ok&&nk s x)) 204)):=⟨fun w M=>by
 cases h1:baseO s x.aNo
 case' some a=>
  cases h2:baseO s x.bNo
  case' some c=>cases h3:a==c
 all_goals
  go_enter func192,ntmps192
  go_wp2_with refine mz M fun M=>?_
  go_end0
  exact⟨rfl,by simpa[nk, *]using M.dr 1⟩⟩
end
section
variable {s:SrcR} {r:RecR} {ok:Bool} {b i:Nat} {As:List Asn} {w w0:World}
theorem nH[Fct (aQ w r)]:Fct (((am r).all fun v=>v.oneCell')=true):=⟨by
 obtain⟨_,_,h1⟩:=ah.sl (inferInstance:ah w r.ifv _ _ _ _);obtain⟨_,_,h2⟩:=ah.sl (inferInstance:ah w r.inv _ _ _ _);obtain⟨_,_,h3⟩:=ah.sl (inferInstance:ah w r.outv _ _ _ _);obtain⟨_,_,h4⟩:=ah.sl (inferInstance:ah w r.runv _ _ _ _);unfold am;rw[h1,h2,h3,h4];rfl⟩
theorem pU{x:OptR}(h:ah w x.cv ByteArray 1 x.choices bF):Fct (((bX x).all fun v=>v.oneCell')=true):=⟨by obtain⟨_,_,h⟩:=h.sl;unfold bX;rw[h];rfl⟩
instance recipe_s[Old As w0][Fct (ap w0 s)][hR:Fct (aQ w0 r)][Chk As b s ok i]:Con prog 191 #[.pointer b,.agg (am r).toArray] As (.tuple #[]) (As.set i (.box b (aX s (ok&&bG s r)) 204)):=⟨fun w M=>by
 have hL:=hR.1.inl;unfold BIG at hL;obtain⟨n,hn⟩:=nm r.ins.length;rw[hn]at hL
 cases c1:decide (0<=r.frm)
 case' true=>cases c2:decide (r.frm<r.til)
 all_goals
  go_enter func191,ntmps191
  go_wp2_with refine mz M fun M=>?_
  refine mg M [0,1,2,3,4,5,6,7,8,1009,1010] fun _ M=>?_
  repeat(first|refine sz M fun M=>?_|refine sj M fun M=>?_|refine sQ ?_)
  try refine aj ?_
  go_wp2_with refine mz M fun M=>?_
  refine mg M [0,1,2,3,4,5,6,7,8,1009,1010] fun _ M=>?_
  repeat(first|refine sz M fun M=>?_|refine sj M fun M=>?_|refine sQ ?_)
  try refine aj ?_
  go_wp2_with refine mz M fun M=>?_
  obtain⟨o1,h1,M⟩:∃o1,o1=(ok&&(((aZ r.itemNo s.items.length&&aZ r.plantNo s.plants.length)&&((decide (0<=r.frm)&&decide (r.frm<r.til))&&decide (r.til<=1024)))&&ic s r.ifs))/\Sep (.box _ _ _::As.set i (.box b (aX s (o1)) 204)) _:=⟨_,by simp[Om, *],M⟩
  replace h1:=MY h1
  go_loopw [52] (fun z W=>∃k:Nat,k<=n/\z=.int .i64 k/\M.h1 (As.set i (.box b (aX s (o1&&(r.ins.take k).all (bM s))) 204)) W) (fun z _=>n-(intOf z).toNat)
  case atStart=>exact⟨0,by omega,rfl,by rw[N3,List.all_nil,Bool.and_true];exact M⟩
  obtain⟨k,hk,rfl,M⟩:=hrel
  replace M:Sep (_::_) _:=M
  by_cases ab:k<n
  case pos=>
   obtain⟨x,hx⟩:=gx (l:=r.ins) (i:=k)
   go_wp2_with refine mz M fun M=>?_
   go_roundw
   case rel=>exact⟨k+1,by omega,by go_num,by rw[ik hx];show Sep (_::_) _;simpa[Om]using M.dr 1⟩
   case measure=>simp[intOf];omega
  obtain rfl:n=k:=by omega
  go_wp2_with refine mz M fun M=>?_
  go_end0
  exact⟨rfl,by rw[Ny (by omega)]at M;simpa[bG,h1.out,Om]using M.dr 1⟩⟩
instance source_s[Old As w0][hS:Fct (ap w0 s)][Chk As b s ok i]:Con prog 121 #[.pointer b] As (.tuple #[]) (As.set i (.box b (aX s (ok&&fF s)) 204)):=⟨fun w M=>by
 go_enter func121,ntmps121;have hl:=hS.1.il;unfold BIG at hl;obtain⟨n0,ac⟩:=nm s.items.length;rw[ac]at hl;go_wp2_with refine mz M fun M=>?_;rw[<-sY (As:=As) (i:=i)]at M;go_loopw [20] (fun z W=>∃k:Nat,k<=n0/\z=.int .i64 k/\Sep (As.set i (.box b (aX s (ok&&(s.items.take k).all (eE s))) 204)) W) (fun z _=>n0-(intOf z).toNat)
 case atStart=>exact⟨0,by omega,rfl,by rw[N3,List.all_nil,Bool.and_true];exact M⟩
 obtain⟨k,hk,rfl,M⟩:=hrel;by_cases ab:k<n0
 case pos=>
  obtain⟨x,hx⟩:=gx (l:=s.items) (i:=k);go_wp2_with refine mz M fun M=>?_;go_roundw
  case rel=>exact⟨k+1,by omega,by go_num,by rw[ik hx];simpa[Bool.and_self,Om]using M.dr 1⟩
  case measure=>simp[intOf];omega
 obtain rfl:n0=k:=by omega
 obtain⟨o1,h1,M⟩:∃o,Hid (o=(ok&&s.items.all (eE s)))/\Sep (As.set i (.box b (aX s (o)) 204)) _:=⟨_,rfl,by rw[Ny (by omega)]at M;exact M⟩
 have hl:=hS.1.ml;unfold BIG at hl;obtain⟨n1,ad⟩:=nm s.machs.length;rw[ad]at hl;go_wp2_with refine mz M fun M=>?_;go_loopw [34] (fun z W=>∃k:Nat,k<=n1/\z=.int .i64 k/\Sep (As.set i (.box b (aX s (o1&&(s.machs.take k).all (pP s))) 204)) W) (fun z _=>n1-(intOf z).toNat)
 case atStart=>exact⟨0,by omega,rfl,by rw[N3,List.all_nil,Bool.and_true];exact M⟩
 obtain⟨k,hk,rfl,M⟩:=hrel;by_cases ab:k<n1
 case pos=>
  obtain⟨x,hx⟩:=gx (l:=s.machs) (i:=k);go_wp2_with refine mz M fun M=>?_;refine mg M [0,1,2,3,4,5,6,7,8,1009,1010] fun _ M=>?_;repeat(first|refine sz M fun M=>?_|refine sj M fun M=>?_|refine sQ ?_)
  try refine aj ?_
  go_wp2_with refine mz M fun M=>?_;go_roundw
  case rel=>exact⟨k+1,by omega,by go_num,by rw[ik hx];simpa[pP,Om]using M.dr 1⟩
  case measure=>simp[intOf];omega
 obtain rfl:n1=k:=by omega
 obtain⟨o2,h2,M⟩:∃o,Hid (o=(o1&&s.machs.all (pP s)))/\Sep (As.set i (.box b (aX s (o)) 204)) _:=⟨_,rfl,by rw[Ny (by omega)]at M;exact M⟩
 have hl:=hS.1.ol;unfold BIG at hl;obtain⟨n2,ag⟩:=nm s.opts.length;rw[ag]at hl;go_wp2_with refine mz M fun M=>?_;go_loopw [61] (fun z W=>∃k:Nat,k<=n2/\z=.int .i64 k/\Sep (As.set i (.box b (aX s (o2&&(s.opts.take k).all (fun o:OptR=>decide (0<o.choices.length)))) 204)) W) (fun z _=>n2-(intOf z).toNat)
 case atStart=>exact⟨0,by omega,rfl,by rw[N3,List.all_nil,Bool.and_true];exact M⟩
 obtain⟨k,hk,rfl,M⟩:=hrel;by_cases ab:k<n2
 case pos=>
  obtain⟨x,hx⟩:=gx (l:=s.opts) (i:=k);haveI:ah w0 x.cv ByteArray 1 x.choices bF:=let h:=hS.1.opt x (Oc hx);⟨h.1,h.2⟩;haveI:=pU (x:=x) (w:=w0) inferInstance;go_wp2_with refine mz M fun M=>?_;go_roundw
  case rel=>exact⟨k+1,by omega,by go_num,by rw[ik hx];simpa[Bool.and_self,Om]using M.dr 1⟩
  case measure=>simp[intOf];omega
 obtain rfl:n2=k:=by omega
 obtain⟨o3,h3,M⟩:∃o,Hid (o=(o2&&s.opts.all (fun o:OptR=>decide (0<o.choices.length))))/\Sep (As.set i (.box b (aX s (o)) 204)) _:=⟨_,rfl,by rw[Ny (by omega)]at M;exact M⟩
 have hl:=hS.1.fl;unfold BIG at hl;obtain⟨n3,al⟩:=nm s.forbs.length;rw[al]at hl;go_wp2_with refine mz M fun M=>?_;go_loopw [78] (fun z W=>∃k:Nat,k<=n3/\z=.int .i64 k/\Sep (As.set i (.box b (aX s (o3&&(s.forbs.take k).all (fun f:ForbR=>decide (0<f.conds.length)&&ic s f.conds))) 204)) W) (fun z _=>n3-(intOf z).toNat)
 case atStart=>exact⟨0,by omega,rfl,by rw[N3,List.all_nil,Bool.and_true];exact M⟩
 obtain⟨k,hk,rfl,M⟩:=hrel;by_cases ab:k<n3
 case pos=>
  obtain⟨x,hx⟩:=gx (l:=s.forbs) (i:=k);haveI:ah w0 x.cv aP 4 x.conds aT:=let h:=hS.1.forb x (Oc hx);⟨h.1,h.2⟩;go_wp2_with refine mz M fun M=>?_;go_roundw
  case rel=>exact⟨k+1,by omega,by go_num,by rw[ik hx];simpa[Bool.and_self,Om]using M.dr 0⟩
  case measure=>simp[intOf];omega
 obtain rfl:n3=k:=by omega
 obtain⟨o4,h4,M⟩:∃o,Hid (o=(o3&&s.forbs.all (fun f:ForbR=>decide (0<f.conds.length)&&ic s f.conds)))/\Sep (As.set i (.box b (aX s (o)) 204)) _:=⟨_,rfl,by rw[Ny (by omega)]at M;exact M⟩
 have hl:=hS.1.rl;unfold BIG at hl;obtain⟨n4,an⟩:=nm s.recs.length;rw[an]at hl;go_wp2_with refine mz M fun M=>?_;go_loopw [97] (fun z W=>∃k:Nat,k<=n4/\z=.int .i64 k/\Sep (As.set i (.box b (aX s (o4&&(s.recs.take k).all (bG s))) 204)) W) (fun z _=>n4-(intOf z).toNat)
 case atStart=>exact⟨0,by omega,rfl,by rw[N3,List.all_nil,Bool.and_true];exact M⟩
 obtain⟨k,hk,rfl,M⟩:=hrel;by_cases ab:k<n4
 case pos=>
  obtain⟨x,hx⟩:=gx (l:=s.recs) (i:=k);haveI:Fct (aQ w0 x):=⟨hS.1.recv x (Oc hx)⟩
  haveI:=nH (w:=w0) (r:=x);go_wp2_with refine mz M fun M=>?_;go_roundw
  case rel=>exact⟨k+1,by omega,by go_num,by rw[ik hx];simpa[Bool.and_self,Om]using M.dr 1⟩
  case measure=>simp[intOf];omega
 obtain rfl:n4=k:=by omega
 obtain⟨o5,h5,M⟩:∃o,Hid (o=(o4&&s.recs.all (bG s)))/\Sep (As.set i (.box b (aX s (o)) 204)) _:=⟨_,rfl,by rw[Ny (by omega)]at M;exact M⟩
 have hl:=hS.1.sl;unfold BIG at hl;obtain⟨n5,ao⟩:=nm s.swaps.length;rw[ao]at hl;go_wp2_with refine mz M fun M=>?_;go_loopw [111] (fun z W=>∃k:Nat,k<=n5/\z=.int .i64 k/\Sep (As.set i (.box b (aX s (o5&&(s.swaps.take k).all (nk s))) 204)) W) (fun z _=>n5-(intOf z).toNat)
 case atStart=>exact⟨0,by omega,rfl,by rw[N3,List.all_nil,Bool.and_true];exact M⟩
 obtain⟨k,hk,rfl,M⟩:=hrel;by_cases ab:k<n5
 case pos=>
  obtain⟨x,hx⟩:=gx (l:=s.swaps) (i:=k);go_wp2_with refine mz M fun M=>?_;go_roundw
  case rel=>exact⟨k+1,by omega,by go_num,by rw[ik hx];simpa[Bool.and_self,Om]using M.dr 1⟩
  case measure=>simp[intOf];omega
 obtain rfl:n5=k:=by omega
 obtain⟨o6,h6,M⟩:∃o,Hid (o=(o5&&s.swaps.all (nk s)))/\Sep (As.set i (.box b (aX s (o)) 204)) _:=⟨_,rfl,by rw[Ny (by omega)]at M;exact M⟩
 go_wp2_with refine mz M fun M=>?_;go_end0;exact⟨rfl,by simpa[fF,h1.out,h2.out,h3.out,h4.out,h5.out,h6.out,Om]using M⟩⟩
end
section
open Go.ChangeMaps (setBlock)
def aM:List (Value×Value)->Nat->List MapEntry
 |[],_=>[]
 |p::l,n=>{key:=p.1,val:=p.2,born:=n}::aM l (n+1)
def cB(kv:List (Value×Value)):Obj:= .map (aM kv 0).toArray kv.length
def aK(w:World)(b:Nat)(kv:List (Value×Value)):Prop:=w.heap[b]? = some (cB kv)
open Classical in
noncomputable def aF:List (Value×Value)->Value->Value->List (Value×Value)
 |[],k,v=>[(k,v)]
 |p::l,k,v=>if p.1=k then(k,v)::l else p::aF l k v
open Classical in
noncomputable def aD:List (Value×Value)->Value->Option Value
 |[],_=>none
 |p::l,k=>if p.1=k then some p.2 else aD l k
open Classical in
noncomputable def dX(v:Value):List MapEntry->Nat->Option (Nat×Value)
 |[],_=>none
 |e::es,i=>if e.key=v then some (i,e.val)else dX v es (i+1)
structure gP(P:Program)(kt:TypeId)(Kd:Value->Prop):Prop where
 chk:∀(e:Bool)(v:Value) (w:World),Kd v->(Instr.checkKey e 10000 kt v).run P w=.ok () w
 find:∀(v:Value)(es:List MapEntry) (w:World),Kd v->(∀e∈es,Kd e.key)->(Instr.findKey kt v es).run P w=.ok (dX v es 0) w
 bits:∀v,Kd v->Instr.sameBits 10000 v v=true
def Iq(kv:List (Value×Value))(n:Nat):(aM kv n).length=kv.length:=by
 induction kv generalizing n with
 |nil=>rfl
 |cons p l ih=>simp[aM,ih]
def zi{Kd:Value->Prop}{kv:List (Value×Value)}(h:∀p∈kv,Kd p.1)(n:Nat):∀e∈aM kv n,Kd e.key:=by
 induction kv generalizing n with
 |nil=>simp[aM]
 |cons p l ih=>
  intro e he
  simp only[aM,Og]at he
  rcases he with rfl|he
  ·exact h p (by simp)
  ·exact ih (fun q hq=>h q (by simp[hq])) _ e he
def qD(kv:List (Value×Value))(n i:Nat):(aM kv n)[i]? = kv[i]?.map fun p=>{key:=p.1,val:=p.2,born:=n+i}:=by
 induction kv generalizing n i with
 |nil=>rfl
 |cons p l ih=>
  cases i with
  |zero=>rfl
  |succ i=>simp only[aM,Ok,ih];congr 2;funext q;congr 1;omega
def zj{k}{kv:List (Value×Value)}{n i:Nat}(h:dX k (aM kv n) i=none)(v):aM (aF kv k v) n=aM kv n++[{key:=k,val:=v,born:=n+kv.length}]/\(aF kv k v).length=kv.length+1/\aD kv k=none/\aF kv k v=kv++[(k,v)]:=by
 induction kv generalizing n i with
 |nil=>exact⟨rfl,rfl,rfl,rfl⟩
 |cons p l ih=>
  simp only[aM,dX]at h
  split at h
  ·cases h
  ·rename_i ab
   obtain⟨h1,h2,h3,h4⟩:=ih h
   refine⟨?_,?_,?_,?_⟩
   ·simp only[aF,if_neg ab,aM,h1,M6,MZ]
    rw[show n+1+l.length=n+(l.length+1)from by omega]
   ·simp only[aF,if_neg ab,M6,h2]
   ·simp only[aD,if_neg ab,h3]
   ·simp only[aF,if_neg ab,h4,MZ]
def zk{k u}{kv:List (Value×Value)}{n i m:Nat}(h:dX k (aM kv n) i=some (m,u))(v):∃j,m=i+j/\aD kv k=some u/\(∃e,(aM kv n)[j]? = some e/\e.key=k)/\(aM kv n).modify j (fun e=>{e with key:=k,val:=v})=aM (aF kv k v) n/\(aF kv k v).length=kv.length:=by
 induction kv generalizing n i with
 |nil=>simp[aM,dX]at h
 |cons p l ih=>
  simp only[aM,dX]at h
  split at h
  ·rename_i he
   cases h
   refine⟨0,rfl,by simp[aD,he],⟨_,rfl,he⟩,?_,by simp[aF,he]⟩
   simp only[aM,aF,if_pos he]
   rfl
  ·rename_i ab
   obtain⟨j,h1,h2,h3,h4,h5⟩:=ih h
   refine⟨j+1,by omega,by simp only[aD,if_neg ab];exact h2,h3,?_,by simp only[aF,if_neg ab,M6,h5]⟩
   simp only[aF,if_neg ab,aM]
   rw[<-h4]
   rfl
section
variable {P:Program} {w:World} {mt kt et:TypeId} {Kd:Value->Prop} {b:Nat} {kv:List (Value×Value)}
def zm(hK:gP P kt Kd)(hm:P.underlying mt=some (.map kt et))(h:aK w b kv)(ag:∀p∈kv,Kd p.1){k}(hk:Kd k)(v):(Instr.mapUpdate mt (.map (some b)) k v).run P w=.ok () (setBlock w b (cB (aF kv k v))):=by
 have h':w.heap[b]? = some (.map (aM kv 0).toArray kv.length):=h;have hf:=hK.find k (aM kv 0) w hk (zi ag 0);have ab:∀o,(setObj b o).run P w=.ok () (setBlock w b o):=fun o=>by simp[setObj,Sem.run,h',setBlock]
 simp only[Instr.mapUpdate,NM,run_underlying hm,Result.andThen,getObj,Sem.run,h',hK.chk _ _ _ hk];rw[show(Instr.findKey kt k (aM kv 0).toArray.toList).run P w=_ from hf]
 cases ac:dX k (aM kv 0) 0 with
 |none=>
  obtain⟨h1,h2,_⟩:=zj ac v
  simp only[N1]
  rw[ab]
  unfold cB
  rw[h1,h2,Nm]
 |some x=>
  obtain⟨m,u⟩:=x
  obtain⟨j,rfl,h2,⟨e,he,ad⟩,h4,h5⟩:=zk ac v
  rw[Nm]
  have al:(Instr.keyThatStays ((((aM kv 0).toArray[j]?).map (·.key)).getD k) k).run P w=.ok k w:=by
   rw[List.getElem?_toArray,he,Option.map_some,Ot,ad];simp only[Instr.keyThatStays,hK.bits k hk,if_true];rfl
  simp only[NM,al,Result.andThen,List.modify_toArray]
  rw[ab,h4]
  unfold cB
  rw[h5]
def qE(hK:gP P kt Kd)(hm:P.underlying mt=some (.map kt et))(h:aK w b kv)(ac:∀p∈kv,Kd p.1){k}(hk:Kd k){z}(hz:∀w,(zeroValue et).run P w=.ok z w)(ok:Bool):(Instr.lookup mt (.map (some b)) k ok).run P w=.ok (if ok then .tuple #[(aD kv k).getD z,.bool (aD kv k).isSome]else(aD kv k).getD z) w:=by
 have h':w.heap[b]? = some (.map (aM kv 0).toArray kv.length):=h;have hf:=hK.find k (aM kv 0) w hk (zi ac 0);simp only[Instr.lookup,NM,run_underlying hm,Result.andThen,getObj,Sem.run,h',hK.chk _ _ _ hk];simp only[NN];rw[show(Instr.findKey kt k (aM kv 0).toArray.toList).run P w=_ from hf]
 cases ab:dX k (aM kv 0) 0 with
 |none=>
  obtain⟨_,_,h3,_⟩:=zj ab z
  simp only[NM,hz,Result.andThen,h3]
  rfl
 |some x=>
  obtain⟨m,u⟩:=x
  obtain⟨j,_,h2,_⟩:=zk ab z
  simp only[h2]
  rfl
end
open Classical in
def zn(kv:List (Value×Value))(k v x):aD (aF kv k v) x=if x=k then some v else aD kv x:=by
 induction kv with
 |nil=>
  simp only[aF,aD]
  by_cases h:x=k
  ·rw[if_pos h,if_pos h.symm]
  ·rw[if_neg h,if_neg (fun e=>h e.symm)]
 |cons p l ih=>
  by_cases h:p.1=k
  ·simp only[aF,if_pos h,aD]
   by_cases hx:x=k
   ·rw[if_pos hx,if_pos hx.symm]
   ·rw[if_neg (fun e=>hx e.symm),if_neg hx,if_neg (fun e=>hx (by rw[<-e,h]))]
  ·simp only[aF,if_neg h,aD,ih]
   by_cases hx:x=k
   ·rw[if_pos hx,if_pos hx,if_neg (fun e=>h (by rw[e,hx]))]
   ·rw[if_neg hx,if_neg hx]
def Ir{Kd:Value->Prop}{kv:List (Value×Value)}(h:∀p∈kv,Kd p.1){k}(hk:Kd k)(v):∀p∈aF kv k v,Kd p.1:=by
 induction kv with
 |nil=>intro p hp;simp only[aF,Oi]at hp;subst hp;exact hk
 |cons q l ih=>
  intro p hp
  simp only[aF]at hp
  split at hp
  ·rcases Og.1 hp with rfl|hp
   ·exact hk
   ·exact h p (by simp[hp])
  ·rcases Og.1 hp with rfl|hp
   ·exact h p (by simp)
   ·exact ih (fun r hr=>h r (by simp[hr])) p hp
def mem_upd(kv:List (Value×Value))(k v x):x∈(aF kv k v).map (·.1)<->x∈kv.map (·.1)\/x=k:=by
 induction kv with
 |nil=>simp[aF]
 |cons q l ih=>
  simp only[aF]
  split
  ·rename_i h;simp only[NP,Og,h];constructor
   ·rintro(h|h);exact .inr h;exact .inl (.inr h)
   ·rintro((h|h)|h);exact .inl h;exact .inr h;exact .inl h
  ·simp only[NP,Og,ih];constructor
   ·rintro(h|h|h);exact .inl (.inl h);exact .inl (.inr h);exact .inr h
   ·rintro((h|h)|h);exact .inl h;exact .inr (.inl h);exact .inr (.inr h)
def aK.new(w:World):aK (w.alloc (.map #[] 0)) w.heap.size []:=N8 w _
def aK.lt{w}{b:Nat}{kv:List (Value×Value)}(h:aK w b kv):b<w.heap.size:=(NX.1 h).1
def aK.set{w:World}{b:Nat}(hb:b<w.heap.size)(kv:List (Value×Value)):aK (setBlock w b (cB kv)) b kv:=by
 show(w.heap.setIfInBounds b _)[b]? = _;simp[hb]
def kG{w}{b c:Nat}(o:Obj)(h:c≠b):(setBlock w b o).heap[c]? = w.heap[c]?:=by
 show(w.heap.setIfInBounds b o)[c]? = _;rw[Array.getElem?_setIfInBounds];rw[if_neg (fun e=>h e.symm)]
def qF(w)(b:Nat)(o:Obj):(setBlock w b o).heap.size=w.heap.size:=by simp[setBlock]
def lY(w:World)(b:Nat)(o:Obj):w.grownBy (setBlock w b o) (some b):=⟨rfl,rfl,rfl,by rw[qF];exact No _,fun k _ hk=>kG o (fun e=>hk (by rw[e]))⟩
def aK.below{w W}{b B:Nat}{kv:List (Value×Value)}(h:aK w b kv)(hb:Below B w W)(hB:b<B):aK W b kv:=(hb.block b hB).trans h
def Below.setB{B b:Nat}{a w}(h:Below B a w)(hb:B<=b)(o:Obj):Below B a (setBlock w b o):=h.trans ⟨rfl,rfl,rfl,by rw[qF];exact No _,fun k hk=>kG o (by omega)⟩
section
variable {P:Program} {ops:Array Oper} {rest:List Oper} {op:Oper} {a:Act} {w:World} {Q:Exit->Act->World->Prop} {mt kt et:TypeId} {Kd:Value->Prop}
def tS(hK:gP P kt Kd)(hm:P.underlying mt=some (.map kt et))(ac:op.guard=none)(x y z)(ho:op.op=.mapUpdate mt x y z\/op.op=.insert mt x y z)(b:Nat)(k v)(hx:a.eval x=.map (some b))(hy:a.eval y=k)(hz:a.eval z=v)(kv:List (Value×Value))(hB:aK w b kv)(ad:∀p∈kv,Kd p.1)(hk:Kd k)(h:wpList P ops Q rest (a.put op.dst undef) (setBlock w b (cB (aF kv k v)))):wpList P ops Q (op::rest) a w:=by
 refine wpList_plain ac fun K ab=>?_;have e:(execOp a.eval op).run P w=.ok .skip (setBlock w b (cB (aF kv k v))):=by
  unfold execOp;rcases ho with ho|ho <;> simp only[ho,hx,hy,hz,NM,zm hK hm hB ad hk v,NO,NN]
 unfold Oper.wp;rw[e,Oper.upon_skip];exact ab _ _ h
def lZ(hK:gP P kt Kd)(hm:P.underlying mt=some (.map kt et))(ac:op.guard=none)(x y)(ok:Bool)(ho:op.op=.lookup mt x y ok)(b:Nat)(k)(hx:a.eval x=.map (some b))(hy:a.eval y=k)(kv:List (Value×Value))(hB:aK w b kv)(ad:∀p∈kv,Kd p.1)(hk:Kd k){z}(hz:∀w,(zeroValue et).run P w=.ok z w)(r)(hr:r=if ok then .tuple #[(aD kv k).getD z,.bool (aD kv k).isSome]else(aD kv k).getD z)(h:wpList P ops Q rest (a.put op.dst r) w):wpList P ops Q (op::rest) a w:=by
 refine wpList_plain ac fun K ab=>?_;have e:(execOp a.eval op).run P w=.ok (.value r) w:=by
  unfold execOp;simp only[ho,hx,hy,NM,qE hK hm hB ad hk hz ok,NO,NN,hr]
 unfold Oper.wp;rw[e,Oper.upon_value];exact ab _ _ h
def zo(hm:P.underlying mt=some (.map kt et))(ac:op.guard=none)(x)(ho:op.op=.range mt x)(b:Nat)(hx:a.eval x=.map (some b))(kv:List (Value×Value))(hB:aK w b kv)(h:wpList P ops Q rest (a.put op.dst (.pointer w.heap.size)) (w.alloc (.mapIter (some b) kv.length #[] kv.length))):wpList P ops Q (op::rest) a w:=by
 refine wpList_plain ac fun K ab=>?_;have h':w.heap[b]? = some (.map (aM kv 0).toArray kv.length):=hB;have e1:(Instr.range mt (.map (some b))).run P w=.ok (.pointer w.heap.size) (w.alloc (.mapIter (some b) kv.length #[] kv.length)):=by
  simp only[Instr.range,NM,run_underlying hm,Result.andThen,getObj,Sem.run,h'];rfl
 have e:(execOp a.eval op).run P w=.ok (.value (.pointer w.heap.size)) (w.alloc (.mapIter (some b) kv.length #[] kv.length)):=by
  unfold execOp;simp only[ho,hx,NM,e1,NO,NN]
 unfold Oper.wp;rw[e,Oper.upon_value];exact ab _ _ h
structure jK(w:World)(b r:Nat)(kv:List (Value×Value))(is:List Nat):Prop where
 it:w.heap[r]? = some (.mapIter (some b) kv.length is.toArray kv.length)
 mp:aK w b kv
 nd:is.Nodup
 lt:∀i∈is,i<kv.length
def It(kv:List (Value×Value)):∀e∈(aM kv 0).toArray.toList,e.born<kv.length:=by
 intro e he;obtain⟨i,hi⟩:=List.getElem?_of_mem (by simpa using he);rw[qD]at hi
 cases hp:kv[i]? with
 |none=>rw[hp]at hi;cases hi
 |some p=>rw[hp]at hi;cases hi;have:=(NQ.1 hp).1;simp only;omega
def Iu(kv:List (Value×Value)):((aM kv 0).toArray.toList.map (·.born)).Nodup:=by
 have:∀(kv:List (Value×Value)) (n:Nat),(aM kv n).map (·.born)=List.range' n kv.length:=by
  intro kv;induction kv with
  |nil=>intro n;rfl
  |cons p l ih=>intro n;simp[aM,ih,List.range'_succ]
 show((aM kv 0).map (·.born)).Nodup;rw[this];exact List.nodup_range'
def Iv{kv:List (Value×Value)}{is:List Nat}{e:MapEntry}(h:e∈(leftOf (aM kv 0).toArray is.toArray).toList):∃p,kv[e.born]? = some p/\e.key=p.1/\e.val=p.2/\e.born ∉ is:=by
 obtain⟨h1,h2⟩:=mem_left h;obtain⟨i,hi⟩:=List.getElem?_of_mem (by simpa using h1);rw[qD]at hi
 cases hp:kv[i]? with
 |none=>rw[hp]at hi;cases hi
 |some p=>
  rw[hp]at hi
  cases hi
  refine⟨p,by simpa using hp,rfl,rfl,?_⟩
  simpa using h2
def Iw{kv:List (Value×Value)}{is:List Nat}(h:(leftOf (aM kv 0).toArray is.toArray).size=0):∀i,i<kv.length->i∈is:=by
 intro i hi;by_cases hc:i∈is
 ·exact hc
 ·exfalso;have hm:({key:=(kv[i]).1,val:=(kv[i]).2,born:=i}:MapEntry)∈leftOf (aM kv 0).toArray is.toArray:=by
   unfold leftOf;rw[Array.mem_filter];refine⟨?_,by simpa using hc⟩;rw[List.mem_toArray];exact Oc (i:=i) (by rw[qD,Nx hi];simp)
  have:=Array.size_pos_of_mem hm;omega
def zp(ag:op.guard=none)(x)(ho:op.op=.next x false)(b r:Nat)(hx:a.eval x=.pointer r)(kv:List (Value×Value))(is:List Nat)(hI:jK w b r kv is)(h0:(∀i,i<kv.length->i∈is)->wpList P ops Q rest (a.put op.dst (.tuple #[.bool false])) w)(h1:∀(i:Nat)(p:Value×Value) (w1),kv[i]? = some p->(w1=w\/w1=w.drew)->jK (setBlock w1 r (.mapIter (some b) kv.length (is.toArray.push i) kv.length)) b r kv (is++[i])->wpList P ops Q rest (a.put op.dst (.tuple #[.bool true,p.1,p.2])) (setBlock w1 r (.mapIter (some b) kv.length (is.toArray.push i) kv.length))):wpList P ops Q (op::rest) a w:=by
 refine wpList_plain ag fun K ad=>?_;unfold Oper.wp;rcases run_next_at (P:=P) w op.type r b kv.length kv.length is.toArray (aM kv 0).toArray kv.length hI.it hI.mp (It kv) (No _)with⟨hz,ab⟩|⟨e,he,w1,ac,ab⟩
 ·have e2:(execOp a.eval op).run P w=.ok (.value (.tuple #[.bool false])) w:=by
   unfold execOp;simp only[ho,hx,NM,ab,NO,NN]
  rw[e2,Oper.upon_value];exact ad _ _ (h0 (Iw hz))
 ·obtain⟨p,hp,hk,hv,hn⟩:=Iv he;have e2:(execOp a.eval op).run P w=.ok (.value (.tuple #[.bool true,e.key,e.val])) (setBlock w1 r (.mapIter (some b) kv.length (is.toArray.push e.born) kv.length)):=by
   unfold execOp;simp only[ho,hx,NM,ab,NO,NN]
  rw[e2,Oper.upon_value,hk,hv];refine ad _ _ (h1 e.born p w1 hp ac ?_);have an:r<w1.heap.size:=by
   have:=(NX.1 hI.it).1;rcases ac with rfl|rfl <;> exact this
  have al:b≠r:=fun e=>by
   have h1:=hI.it;have h2:w.heap[b]? = some (.map (aM kv 0).toArray kv.length):=hI.mp;rw[e,h1]at h2
   cases h2
  refine⟨?_,?_,?_,?_⟩
  ·show(w1.heap.setIfInBounds r _)[r]? = _;simp[an]
  ·show(setBlock w1 r _).heap[b]? = _;rw[kG _ al];rcases ac with rfl|rfl <;> exact hI.mp
  ·rw[List.nodup_append];exact⟨hI.nd,by simp,fun x hx y hy=>by rw[Oi]at hy;subst hy;exact fun e=>hn (e▸hx)⟩
  ·intro i hi;rcases Of.1 hi with hi|hi
   ·exact hI.lt i hi
   ·rw[Oi]at hi;subst hi;exact(NQ.1 hp).1
def wpl_entry(ad:op.guard=none)(x)(ho:op.op=.entry x)(b r:Nat)(hx:a.eval x=.pointer r)(kv:List (Value×Value))(is:List Nat)(i:Nat)(p:Value×Value)(hp:kv[i]? = some p)(hI:jK w b r kv (is++[i]))(h:wpList P ops Q rest (a.put op.dst (.tuple #[p.1,p.2])) w):wpList P ops Q (op::rest) a w:=by
 refine wpList_plain ad fun K ac=>?_;unfold Oper.wp;have ab:=run_entry_at (P:=P) w r b kv.length is.toArray (aM kv 0).toArray kv.length {key:=p.1,val:=p.2,born:=i} (by have:=hI.it;simpa using this) hI.mp (Oc (i:=i) (by rw[List.toList_toArray,qD,hp];simp)) (Iu kv);have e2:(execOp a.eval op).run P w=.ok (.value (.tuple #[p.1,p.2])) w:=by
  unfold execOp;simp only[ho,hx,NM,ab,NO,NN]
 rw[e2,Oper.upon_value];exact ac _ _ h
end
def zq{α:Type}{ks:List α}{is:List Nat}(hn:is.Nodup)(hl:∀i∈is,i<ks.length)(ha:∀i,i<ks.length->i∈is):(is.filterMap (ks[·]?)).Perm ks:=by
 have hp:is.Perm (List.range ks.length):=by
  rw[List.perm_ext_iff_of_nodup hn List.nodup_range];intro i;rw[OH];exact⟨hl i,ha i⟩
 have h1:=hp.filterMap (ks[·]?);have h2:(List.range ks.length).filterMap (ks[·]?)=ks:=by
  apply List.ext_getElem?;intro i;have:∀(l:List α)(n:Nat),n<=l.length->(List.range n).filterMap (l[·]?)=l.take n:=by
   intro l n;induction n with
   |zero=>intro _;simp
   |succ n ih=>
    intro hn
    rw[List.range_succ,List.filterMap_append,ih (by omega),Ox]
    simp[Nx (show n<l.length by omega)]
  rw[this ks ks.length (No _),OK]
 rw[h2]at h1;exact h1
end
def KdI(v:Value):Prop:=∃n:Int,v=.int .i64 n
def KdP(v:Value):Prop:=∃m n:Int,v=.agg #[.int .i64 m,.int .i64 n]
def fj(P:Program)(kt)(hk:P.underlying kt=some (.int .i64)):gP P kt KdI:=by
 refine⟨?_,?_,?_⟩
 ·rintro e v w ⟨n,rfl⟩;rw[show(10000:Nat)=9999+1 from rfl,Instr.checkKey];simp only[NM,run_underlying hk,Result.andThen];rfl
 ·rintro v es w ⟨n,rfl⟩ ac;simp only[Instr.findKey,NM,run_underlying hk,Result.andThen];have:∀(es:List MapEntry)(i:Nat),(∀e∈es,KdI e.key)->Instr.findNow (.int .i64) (.int .i64 n) es i=some (dX (.int .i64 n) es i):=by
   intro es;induction es with
   |nil=>intro i _;rfl
   |cons e es ih=>
    intro i h
    obtain⟨m,hm⟩:=h e (by simp)
    rw[Instr.findNow,dX,hm]
    simp only[Instr.sameNow,if_true]
    by_cases ab:n=m
    ·subst ab
     rw[if_pos rfl]
     simp
    ·have h1:(n==m)=false:=by simpa using ab
     have h2:¬(Value.int .i64 m=.int .i64 n):=fun e=>by injection e with _ e;exact ab e.symm
     rw[h1,if_neg h2]
     exact ih _ fun e he=>h e (by simp[he])
  rw[this es 0 ac];rfl
 ·rintro v ⟨n,rfl⟩;simp[Instr.sameBits]
end Go.Proofs.YtgbbhcbkldhjiaaGreatDoor
