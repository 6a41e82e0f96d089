import Derived.Test.YtgbbhcbkldhjiaaGreatDoorK05
import Derived.Laws.EntriesVeiled
import Derived.Lib.AppendZeros
import Derived.Laws.MakeOwn
import Derived.Laws.IdiomCopy
import Derived.ArgAppend
set_option linter.all false
set_option maxRecDepth 100000
set_option maxHeartbeats 16000000
namespace Go.Proofs.YtgbbhcbkldhjiaaGreatDoor
open Go.Proofs.Tryz Go.RowKit Bf
section
open Go Go.RowKit
abbrev OI:=@Array.getElem?_setIfInBounds_self_of_lt
abbrev Ov:=@Nat.mul_one
abbrev OQ:=@List.toArray_replicate
end
inductive Ord where
 |e
 |q (i:Nat) (r:Ord)
 |l (i:Nat) (r:Ord)
 |two (i j:Nat) (ri rj:Ord)
def Ord.len:Ord->Nat
 |.e=>0
 |.q _ r=>r.len+1
 |.l _ r=>r.len+1
 |.two _ _ ri rj=>max ri.len rj.len+1
section
variable {P:Program} {l rest rest':List Oper} {Q:Exit->Act->World->Prop} {S:World->Prop} {i j:Nat} {r ri rj:Ord} {o o':Oper} {v:Value} {a:Act} {w:World}
end
abbrev fH(b:Nat):Value:= .pointer b
structure Agr(F:List (Nat×Nat))(a a':Act):Prop where
 defers:a'.defers=a.defers
 size:a'.tmps.size=a.tmps.size
 same:∀t:Nat,(∀p∈F,p.2≠t)->a'.tmps[t]? = a.tmps[t]?
def Agr.refl(F:List (Nat×Nat))(a):Agr F a a:=⟨rfl,rfl,fun _ _=>rfl⟩
def Agr.trans{F:List (Nat×Nat)}{a b c}(h:Agr F a b)(k:Agr F b c):Agr F a c:=⟨k.defers.trans h.defers,k.size.trans h.size,fun t ht=>(k.same t ht).trans (h.same t ht)⟩
def Agr.put{F:List (Nat×Nat)}{a}{p:Nat×Nat}(hp:p∈F)(x):Agr F a (a.put (some p.2) x):=
 ⟨rfl,by simp[Act.put],fun t ht=>by simp only[Act.put];rw[OD (ht p hp)]⟩
def FJ(F:List (Nat×Nat))(N:Nat)(T:TypeId)(z:List Value)(a:Act)(w:World):Prop:=
 ∃bs:List Nat,bs.length=F.length/\(∀k k' b:Nat,bs[k]? = some b->bs[k']? = some b->k=k')/\∀(k b:Nat)(p:Nat×Nat),bs[k]? = some b->F[k]? = some p->N<=b/\Blk w b z T/\a.tmps[p.2]? = some (fH b)
def aN(P:Program)(ops:Array Oper)(Q:Exit->Act->World->Prop)(S:World->Prop)(F:List (Nat×Nat))(N:Nat)(T:TypeId)(z:List Value)(ord2:List Nat):List Nat->Act->World->Prop
 |[],a,w=>∀a' W,Agr F a a'->eB w W->S W->FJ F N T z a' W->aE P ops Q S ord2 a' W
 |i::is,a,w=>if Nat.blt i 1000=true then ∀a',Agr F a a'->∃o v,ops[i]? = some o/\YieldsIf P ops S o v a'/\(∀p∈F,o.dst≠some p.2)/\aN P ops Q S F N T z ord2 is (a'.put o.dst v) w
  else ∀a' W,Agr F a a'->eB w W->S W->wpOp P ops Q (i-1000) (fun a2 w2=>eB W w2/\(∀p∈F,a2.tmps[p.2]? = a'.tmps[p.2]?)/\aN P ops Q S F N T z ord2 is a2 w2) a' W
def nE(F:List (Nat×Nat))(B:List Bool)(j:Nat):Bool:=(List.range F.length).any fun k=>(F[k]?).map (·.1)==some j&&B[k]?==some false
def gd(md:Region.Mode)(ops:Array Oper)(F:List (Nat×Nat))(ord2:List Nat):Nat->List Nat->Array Bool->List Bool->Bool
 |0,_,_,_=>false
 |n+1,i::is,listed,B=>if Nat.blt i 1000=true then Region.free md ops listed i&&(Region.ready md ops listed).contains i&&gd md ops F ord2 n is (listed.setIfInBounds i true) B
  else(!(Region.ready md ops listed).isEmpty&&(Region.ready md ops listed).all fun j=>j==i-1000||nE F B j)&&(gd md ops F ord2 n is (listed.setIfInBounds (i-1000) true) B&&
   (List.range F.length).all fun k=>B[k]? != some false||(match F[k]? with|some p=>gd md ops F ord2 n (i::is) (listed.setIfInBounds p.1 true) (B.set k true)|none=>false))
 |n+1,[],listed,B=>if B.all id then ju md ops ord2 listed else(!(Region.ready md ops listed).isEmpty&&(Region.ready md ops listed).all (nE F B))&&
  (List.range F.length).all fun k=>B[k]? != some false||(match F[k]? with|some p=>gd md ops F ord2 n [] (listed.setIfInBounds p.1 true) (B.set k true)|none=>false)
structure pR(F:List (Nat×Nat))(N:Nat)(T:TypeId)(z:List Value)(D:List (Option Nat))(a:Act)(w:World):Prop where
 len:D.length=F.length
 one:∀k k' b:Nat,D[k]? = some (some b)->D[k']? = some (some b)->k=k'
 at_:∀(k b:Nat)(p:Nat×Nat),D[k]? = some (some b)->F[k]? = some p->N<=b/\Blk w b z T/\a.tmps[p.2]? = some (fH b)
 slot:∀p∈F,p.2<a.tmps.size
def FK(T:TypeId)(ops:Array Oper)(F:List (Nat×Nat)):Prop:=∀p∈F,∃o,ops[p.1]? = some o/\o.op=.alloc T/\o.guard=none/\o.dst=some p.2
section
variable {P:Program} {md:Region.Mode} {ops:Array Oper} {Q:Exit->Act->World->Prop} {S:World->Prop} {F:List (Nat×Nat)} {N:Nat} {T:TypeId} {z:List Value} {ord2:List Nat}
def FL{f:Nat}{t:Nat}{o}{a:Act}{w:World}{K:Act->World->Prop}(ho:ops[f]? = some o)(h1:o.op=.alloc T)(h2:o.guard=none)(h3:o.dst=some t)(hz:∃i zv,P.info? T=some i/\i.zero=some zv/\zv.cells=z.toArray)(h:K (a.put (some t) (fH w.heap.size)) (w.alloc (.cells z.toArray T))):wpOp P ops Q f K a w:=by
 obtain⟨i,zv,hi,ac,ab⟩:=hz;unfold wpOp;rw[ho];simp only;rw[if_pos (by unfold Region.wanted;rw[h2])];refine Or.inl ?_;have e1:(execOp a.eval o).run P w=.ok (.value (fH w.heap.size)) (w.alloc (.cells z.toArray T)):=by
  unfold execOp;simp only[h1];rw[<-ab];simp[Instr.alloc,zeroValue,typeInfo,hi,ac,newVar,go_sem]
 unfold Oper.wp;rw[e1,Oper.upon_value,h3];exact h
def FM{ac:List Nat}{n:Nat}{listed:Array Bool}{B:List Bool}{j:Nat}(hj:nE F B j=true)(hk:((List.range F.length).all fun k=>B[k]? != some false||(match F[k]? with|some p=>gd md ops F ord2 n ac (listed.setIfInBounds p.1 true) (B.set k true)|none=>false))=true) :∃(k t:Nat),F[k]? = some (j,t)/\B[k]? = some false/\gd md ops F ord2 n ac (listed.setIfInBounds j true) (B.set k true)=true:=by
 unfold nE at hj;rw[List.any_eq_true]at hj;obtain⟨k,ad,ab⟩:=hj;rw[Ob,beq_iff_eq,beq_iff_eq]at ab;have h:=Od.1 hk k ad
 cases hF:F[k]? with
 |none=>rw[hF]at ab;cases ab.1
 |some p=>
  obtain⟨f,t⟩:=p
  rw[hF]at ab h
  have e:f=j:=Option.some.inj ab.1
  subst e
  refine⟨k,t,hF,ab.2,?_⟩
  simpa[ab.2]using h
def pR.step{D:List (Option Nat)}{a}{w}(h:pR F N T z D a w)(hN:N<=w.heap.size){k f t:Nat}(hk:F[k]? = some (f,t))(hD:D[k]? = some none)(ac:∀(k k':Nat)(p q:Nat×Nat),F[k]? = some p->F[k']? = some q->p.2=q.2->k=k'):pR F N T z (D.set k (some w.heap.size)) (a.put (some t) (fH w.heap.size)) (w.alloc (.cells z.toArray T)):=by
 have ad:k<D.length:=(NQ.1 hD).1;have ab:∀k' b:Nat,D[k']? = some (some b)->b<w.heap.size:=by
  intro k' b hb;obtain⟨p,hp⟩:=gx (l:=F) (i:=k') (by rw[<-h.len];exact(NQ.1 hb).1);exact(h.at_ k' b p hb hp).2.1.lt
 refine⟨by rw[List.length_set];exact h.len,fun i j b hi hj=>?_,fun i b p hi hp=>?_,fun p hp=>by simp only[Act.put,Array.size_setIfInBounds];exact h.slot p hp⟩
 ·rw[List.getElem?_set]at hi hj;split at hi
  ·split at hj
   ·omega
   ·have:=ab j b hj;have e:w.heap.size=b:=Option.some.inj (Option.some.inj hi);omega
  ·split at hj
   ·have:=ab i b hi;have e:w.heap.size=b:=Option.some.inj (Option.some.inj hj);omega
   ·exact h.one i j b hi hj
 ·rw[List.getElem?_set]at hi;split at hi
  ·rename_i e;have eb:w.heap.size=b:=Option.some.inj (Option.some.inj hi);subst e;subst eb;rw[hk]at hp;have ep:=Option.some.inj hp;subst ep;refine⟨hN,Blk.new w z T,?_⟩;simp only[Act.put];rw[OI (h.slot _ (Oc hk))]
  ·rename_i e;obtain⟨h1,h2,h3⟩:=h.at_ i b p hi hp;refine⟨h1,h2.alloc _,?_⟩;simp only[Act.put];rw[OD (fun et=>e (ac k i _ p hk hp et))];exact h3
def iU(B:List Bool):Nat:=B.countP (fun b=> !b)
def FN{B:List Bool}:∀{k:Nat},B[k]? = some false->iU B=iU (B.set k true)+1:=by
 induction B with
 |nil=>intro k h;simp at h
 |cons b B ih=>
  intro k h
  cases k with
  |zero=>
   simp only[Oj,Option.some.injEq]at h
   subst h
   simp[iU]
  |succ k=>
   rw[Ok]at h
   have:=ih h
   unfold iU at this⊢
   rw[OC,List.countP_cons,List.countP_cons,this]
   omega
def FO(hs:Region.noSelect ops=true)(hQ:∀(i:Nat)(o),ops[i]? = some o->∀c (a:Act) (v) (w),Q (.panic c) (a.put o.dst v) w->Q (.panic c) a w)(bb:∀W W',S W->eB W W'->S W')(hA:FK T ops F)(hz:∃i zv,P.info? T=some i/\i.zero=some zv/\zv.cells=z.toArray)(bg:∀(k k':Nat)(p q:Nat×Nat),F[k]? = some p->F[k']? = some q->p.2=q.2->k=k') :∀(n:Nat)(ao:List Nat) (fuel:Nat) (listed:Array Bool) (D:List (Option Nat)) (a0:Act) (w0:World) (a:Act) (w:World),ao.length+iU (D.map Option.isSome)+ord2.length<=fuel->gd md ops F ord2 n ao listed (D.map Option.isSome)=true->S w->Agr F a0 a->eB w0 w->N<=w0.heap.size->pR F N T z D a w->aN P ops Q S F N T z ord2 ao a0 w0->wpAnyH P md ops Q S fuel listed a w:=by
 intro n;induction n with
 |zero=>intro ao fuel listed D a0 w0 a w _ ab;cases ao <;> simp[gd]at ab
 |succ n ih=>
  intro ao fuel listed D a0 w0 a w hf ab hS ba ar hN hI h
  have ad:∀(al:List Nat)(f:Nat) (j:Nat),f+1=fuel->al=ao->nE F (D.map Option.isSome) j=true->((List.range F.length).all fun k=>(D.map Option.isSome)[k]? != some false||(match F[k]? with|some p=>gd md ops F ord2 n al (listed.setIfInBounds p.1 true) ((D.map Option.isSome).set k true)|none=>false))=true->
   wpOp P ops Q j (fun a' w'=>S w'/\wpAnyH P md ops Q S f (listed.setIfInBounds j true) a' w') a w:=by
   intro al f j bi e hj hk
   subst e
   obtain⟨k,t,hF,hB,bc⟩:=FM hj hk
   obtain⟨o,h1,h2,h3,h4⟩:=hA (j,t) (Oc hF)
   have hD:D[k]? = some none:=by
    rw[Ou]at hB
    cases hd:D[k]? with
    |none=>rw[hd]at hB;cases hB
    |some d=>rw[hd]at hB;cases d with
     |none=>rfl
     |some b=>cases hB
   refine FL h1 h2 h3 h4 hz ⟨bb w _ hS ((NB _ _).alloc (No _) _),?_⟩
   have ax:(D.set k (some w.heap.size)).map Option.isSome=(D.map Option.isSome).set k true:=by rw[List.map_set];rfl
   refine ih al f _ (D.set k (some w.heap.size)) a0 w0 _ _ ?_ (by rw[ax];exact bc) (bb w _ hS ((NB _ _).alloc (No _) _)) (ba.trans (Agr.put (p:=(j,t)) (Oc hF) _)) (ar.alloc ar.size _) hN (hI.step (Nv hN ar.size) hF hD bg) h
   have:=FN hB
   rw[ax];omega
  cases ao with
  |nil=>
   unfold aN at h
   unfold gd at ab
   split at ab
   ·rename_i ac
    refine pn hs hQ ord2 fuel listed a w (by simp only[ND]at hf;omega) ab hS (h a w ba ar hS ?_)
    have ag:∀k,k<D.length->∃b,D[k]? = some (some b):=by
     intro k hk;have:=Od.1 ac (D.map Option.isSome)[k]! (by rw[getElem!_pos _ _ (by rw[N6];exact hk)];exact OG _);rw[getElem!_pos _ _ (by rw[N6];exact hk),List.getElem_map]at this;rw[Nx hk]
     cases hd:D[k]with
     |none=>rw[hd]at this;cases this
     |some b=>exact⟨b,rfl⟩
    refine⟨D.map (fun d=>d.getD 0),by rw[N6];exact hI.len,fun k k' b h1 h2=>?_,fun k b p h1 h2=>?_⟩
    ·rw[Ou]at h1 h2
     obtain⟨b1,e1⟩:=ag k (by cases hd:D[k]? with|none=>rw[hd]at h1;cases h1|some d=>exact(NQ.1 hd).1)
     obtain⟨b2,e2⟩:=ag k' (by cases hd:D[k']? with|none=>rw[hd]at h2;cases h2|some d=>exact(NQ.1 hd).1)
     rw[e1]at h1;rw[e2]at h2
     have f1:b1=b:=Option.some.inj h1
     have f2:b2=b:=Option.some.inj h2
     subst f1;subst f2
     exact hI.one k k' _ e1 e2
    ·rw[Ou]at h1
     obtain⟨b1,e1⟩:=ag k (by cases hd:D[k]? with|none=>rw[hd]at h1;cases h1|some d=>exact(NQ.1 hd).1)
     rw[e1]at h1
     have f1:b1=b:=Option.some.inj h1
     subst f1
     exact hI.at_ k _ p e1 h2
   ·rename_i ac
    simp only[Ob]at ab
    obtain⟨⟨aA,bd⟩,hk⟩:=ab
    have hu:0<iU (D.map Option.isSome):=by
     simp only[Bool.not_eq_true]at ac;rw[List.all_eq_false]at ac;obtain⟨x,hx,bh⟩:=ac;unfold iU;rw[List.countP_pos_iff];exact⟨x,hx,by simpa using bh⟩
    obtain⟨f,rfl⟩:∃f,fuel=f+1:=⟨fuel-1,by omega⟩
    refine⟨fun e=>by rw[e]at aA;simp at aA,fun j hj=>ad [] f j rfl rfl (Od.1 bd j hj) hk⟩
  |cons i is=>
   simp only[M6]at hf
   obtain⟨f,rfl⟩:∃f,fuel=f+1:=⟨fuel-1,by omega⟩
   unfold aN at h
   unfold gd at ab
   split at ab
   ·rename_i hi
    rw[if_pos hi]at h
    simp only[Ob]at ab
    obtain⟨o,v,ho,hy,hd,h⟩:=h a ba
    refine wpAnyH_take ho hs ab.1.1 ab.1.2 (fun c a w h=>hQ _ _ ho c a _ w h) hy hS ?_
    refine ih is f _ D (a.put o.dst v) w0 _ w (by omega) ab.2 hS (Agr.refl _ _) ar hN ⟨hI.len,hI.one,fun k b p h1 h2=>?_,fun p hp=>?_⟩ h
    ·obtain⟨g1,g2,g3⟩:=hI.at_ k b p h1 h2
     refine⟨g1,g2,?_⟩
     rw[<-g3]
     have:=hd p (Oc h2)
     cases he:o.dst with
     |none=>rfl
     |some t=>
      rw[he]at this
      simp only[Act.put]
      rw[OD (fun e=>this (by rw[e]))]
    ·have:=hI.slot p hp
     cases he:o.dst with
     |none=>exact this
     |some t=>simp only[Act.put,Array.size_setIfInBounds];exact this
   ·rename_i hi
    rw[if_neg hi]at h
    simp only[Ob]at ab
    obtain⟨⟨aA,bd⟩,an,hk⟩:=ab
    refine⟨fun e=>by rw[e]at aA;simp at aA,fun j hj=>?_⟩
    have av:=Od.1 bd j hj
    have h0:=h a w ba ar hS
    generalize i-1000=m at h0 av an
    rw[Bool.or_eq_true,beq_iff_eq]at av
    rcases av with e|av
    ·subst e
     refine wpOp_mono (fun a2 w2 hh=>?_) h0
     obtain⟨g1,g2,g3⟩:=hh
     have be:=bb w w2 hS g1
     refine⟨be,ih is f _ D a2 w2 a2 w2 (by omega) an be (Agr.refl _ _) (NB _ _) (Nv hN (Nv ar.size g1.size)) ⟨hI.len,hI.one,fun k b p h1 h2=>?_,fun p hp=>?_⟩ g3⟩
     ·obtain⟨e1,e2,e3⟩:=hI.at_ k b p h1 h2
      exact⟨e1,e2.below g1 e2.lt,by rw[g2 p (Oc h2)];exact e3⟩
     ·have e:=g2 p hp
      rw[Array.getElem?_eq_getElem (hI.slot p hp)]at e
      exact(NX.1 e).1
    ·exact ad (i::is) f j rfl rfl av hk
end
def sO{a a'}{f t:Nat}(h:Agr [(f,t)] a a')(ht:Nat.blt t a.tmps.size=true):∃x,a'=a.put (some t) x/\(a.put (some t) x).tmps[t]? = some x:=by
 have hl:t<a.tmps.size:=by rw[<-Nat.blt_eq];exact ht
 obtain⟨tm,df⟩:=a;obtain⟨ab,ad⟩:=a';obtain⟨h1,h2,h3⟩:=h;simp only at h1 h2 h3 hl;subst h1;have ac:t<ab.size:=by omega
 refine⟨ab[t],?_,?_⟩
 ·simp only[Act.put,Act.mk.injEq,and_true];apply Array.ext_getElem?;intro j;by_cases hj:t=j
  ·subst hj;rw[OI hl,Array.getElem?_eq_getElem ac]
  ·rw[OD hj];exact h3 j (fun p hp=>by simp only[Oi]at hp;subst hp;exact hj)
 ·simp only[Act.put];rw[OI hl]
def sP{a a'}{f t g u:Nat}(h:Agr [(f,t),(g,u)] a a')(ht:Nat.blt t a.tmps.size=true)(hu:Nat.blt u a.tmps.size=true)(hn:Nat.beq t u=false):∃x y,a'=(a.put (some t) x).put (some u) y/\((a.put (some t) x).put (some u) y).tmps[t]? = some x/\((a.put (some t) x).put (some u) y).tmps[u]? = some y:=by
 have hl:t<a.tmps.size:=by rw[<-Nat.blt_eq];exact ht
 have ad:u<a.tmps.size:=by rw[<-Nat.blt_eq];exact hu
 have an:t≠u:=Nat.ne_of_beq_eq_false hn;obtain⟨tm,df⟩:=a;obtain⟨ab,ao⟩:=a';obtain⟨h1,h2,h3⟩:=h;simp only at h1 h2 h3 hl ad;subst h1;have al:t<ab.size:=by omega
 have ag:u<ab.size:=by omega
 refine⟨ab[t],ab[u],?_,?_,?_⟩
 ·simp only[Act.put,Act.mk.injEq,and_true];apply Array.ext_getElem?;intro j;by_cases hj:u=j
  ·subst hj;rw[OI (by simpa using ad),Array.getElem?_eq_getElem ag]
  ·rw[OD hj];by_cases ac:t=j
   ·subst ac;rw[OI hl,Array.getElem?_eq_getElem al]
   ·rw[OD ac];exact h3 j (fun p hp=>by simp only[Og,Oh,or_false]at hp;rcases hp with rfl|rfl;exact ac;exact hj)
 ·simp only[Act.put];rw[OD an.symm,OI hl]
 ·simp only[Act.put];rw[OI (by simpa using ad)]
def nF(l:List Oper)(F:List (Nat×Nat))(T:TypeId)(ab ord2:List Nat):Bool:=
 Region.noSelect l.toArray&&(Nat.ble (ab.length+F.length+ord2.length) l.toArray.size&&((F.all fun p=>match l.toArray[p.1]? with
  |some o=>(match o.op with |.alloc U=>U==T|_=>false)&&o.guard.isNone&&o.dst==some p.2
  |none=>false)&&gd .any l.toArray F ord2 100 ab (Array.replicate l.toArray.size false) (F.map fun _=>false)))
section
variable {P:Program} {l rest:List Oper} {Q:Exit->Act->World->Prop} {S:World->Prop} {N:Nat} {T:TypeId} {z:List Value} {ord2:List Nat} {i:Nat} {is:List Nat} {o:Oper} {a:Act} {w:World} {f t g u:Nat}
def sU{id:Nat}(F:List (Nat×Nat))(ab ord2:List Nat)(T)(z:List Value)(hm:P.follows .mixedOrders=true)(ac:nF l F T ab ord2=true)(ht:(F.all fun p=>Nat.blt p.2 a.tmps.size)=true)(hn:(F.map (·.2)).Nodup)(hz:(P.info? T).map (·.zero)=some (some (.agg z.toArray)))(ad:∀W W',S W->eB W W'->S W')(hS:S w.drew)(h:aN P l.toArray Q S F w.heap.size T z ord2 ab a w.drew)(hQ:∀(i:Nat)(o),l.toArray[i]? = some o->∀c (a:Act) (v) (w),Q (.panic c) (a.put o.dst v) w->Q (.panic c) a w:=by(intro i o _ c a v w;generalize o.dst=d;cases d <;> exact fun h=>h)):(Code.region id l.toArray true).wp P Q a w:=by
 have ag:∀(k k':Nat)(p q:Nat×Nat),F[k]? = some p->F[k']? = some q->p.2=q.2->k=k':=by
  intro k k' p q h1 h2 h3;refine(List.getElem?_inj (l:=F.map (·.2)) (by rw[N6];exact(NQ.1 h1).1) hn).1 ?_;rw[Ou,Ou,h1,h2];simp[h3]
 unfold nF at ac;simp only[Ob,Nat.ble_eq]at ac;obtain⟨h1,h2,h3,h4⟩:=ac;have al:∃i zv,P.info? T=some i/\i.zero=some zv/\zv.cells=z.toArray:=by
  cases hi:P.info? T with
  |none=>rw[hi]at hz;cases hz
  |some i=>
   rw[hi]at hz
   exact⟨i,_,rfl,Option.some.inj hz,rfl⟩
 refine wp_region_held hm (FO h1 hQ ad (fun p hp=>?_) al ag 100 ab _ _ (F.map fun _=>none) a w.drew a w.drew ?_ (by rw[List.map_map];exact h4) hS (Agr.refl _ _) (NB _ _) (No _) ⟨by rw[N6],?_,?_,?_⟩ h)
 ·have:=Od.1 h3 p hp;split at this
  ·rename_i o ho;simp only[Ob,beq_iff_eq,Option.isNone_iff_eq_none]at this;obtain⟨⟨g1,g2⟩,g3⟩:=this;refine⟨o,ho,?_,g2,g3⟩;split at g1
   ·rename_i U hU;rw[hU,beq_iff_eq.1 g1]
   ·cases g1
  ·cases this
 ·have e:∀F:List (Nat×Nat),iU ((F.map fun _=>(none:Option Nat)).map Option.isSome)=F.length:=by
   intro F;induction F with
   |nil=>rfl
   |cons p F ih=>unfold iU at ih⊢;simp only[NP,List.countP_cons,M6,ih];rfl
  rw[e];exact h2
 ·intro k k' b hk;rw[Ou]at hk
  cases hF:F[k]? with
  |none=>rw[hF]at hk;cases hk
  |some p=>rw[hF]at hk;cases hk
 ·intro k b p hk;rw[Ou]at hk
  cases hF:F[k]? with
  |none=>rw[hF]at hk;cases hk
  |some p=>rw[hF]at hk;cases hk
 ·intro p hp;rw[<-Nat.blt_eq];exact Od.1 ht p hp
def xJ{id:Nat}(F:List (Nat×Nat))(ab ord2:List Nat)(T)(z:List Value)(hm:P.follows .mixedOrders=true)(ac:nF l F T ab ord2=true)(ht:(F.all fun p=>Nat.blt p.2 a.tmps.size)=true)(hn:(F.map (·.2)).Nodup)(hz:(P.info? T).map (·.zero)=some (some (.agg z.toArray)))(h:aN P l.toArray Q (fun W=>Below w.heap.size w.drew W) F w.heap.size T z ord2 ab a w.drew)(hQ:∀(i:Nat)(o),l.toArray[i]? = some o->∀c (a:Act) (v) (w),Q (.panic c) (a.put o.dst v) w->Q (.panic c) a w:=by(intro i o _ c a v w;generalize o.dst=d;cases d <;> exact fun h=>h)):(Code.region id l.toArray true).wp P Q a w:=
 sU F ab ord2 T z hm ac ht hn hz (fun W W' hW hb=>hW.trans (hb.mono hW.size)) (NB _ _) h hQ
def kp(ht:Nat.blt t a.tmps.size=true)(hi:Nat.blt i 1000=true)(hl:l.drop i=o::rest)(hd:(o.dst==some t)=false)(h:∀x,∃v,Region.wanted o (yielded l.toArray (a.put (some t) x).tmps)=true/\(∀w,S w->(execOp (a.put (some t) x).eval o).run P w=.ok (.value v) w)/\aN P l.toArray Q S [(f,t)] N T z ord2 is ((a.put (some t) x).put o.dst v) w):aN P l.toArray Q S [(f,t)] N T z ord2 (i::is) a w:=by
 unfold aN;rw[if_pos hi];intro a' ab;obtain⟨x,rfl,_⟩:=sO ab ht;obtain⟨v,h1,h2,h3⟩:=h x;refine⟨o,v,eM hl,Or.inl ⟨h1,h2⟩,fun p hp=>?_,h3⟩;simp only[Oi]at hp;subst hp;simpa using hd
def lE(ht:Nat.blt t a.tmps.size=true)(hi:Nat.blt i 1000=false)(hl:l.drop (i-1000)=o::rest)(h:∀x W,eB w W->S W->Region.wanted o (yielded l.toArray (a.put (some t) x).tmps)=true/\∀K':Act->World->Prop,Shut (∀a2 w2,eB W w2->a2.tmps[t]? = some x->aN P l.toArray Q S [(f,t)] N T z ord2 is a2 w2->K' a2 w2)->Oper.wp P o (a.put (some t) x) W K' Q) :aN P l.toArray Q S [(f,t)] N T z ord2 (i::is) a w:=by
 unfold aN;rw[if_neg (by rw[hi];decide)];intro a' W ab hW hS;obtain⟨x,rfl,hx⟩:=sO ab ht;obtain⟨h1,h2⟩:=h x W hW hS;refine wpOp_step (eM hl) (fun K' hK=>?_);rw[if_pos h1];refine h2 K' (fun a2 w2 g1 g2 g3=>hK a2 w2 ⟨g1,fun p hp=>?_,g3⟩);simp only[Oi]at hp;subst hp;rw[hx];exact g2
def sV(ht:Nat.blt t a.tmps.size=true)(h:∀b W,eB w W->S W->N<=b->Blk W b z T->aE P l.toArray Q S ord2 (a.put (some t) (fH b)) W):aN P l.toArray Q S [(f,t)] N T z ord2 [] a w:=by
 unfold aN;intro a' W ab hW hS hE;obtain⟨x,rfl,hx⟩:=sO ab ht;obtain⟨bs,h1,_,h2⟩:=hE;obtain⟨b,hb⟩:=gx (l:=bs) (i:=0) (by rw[h1];exact Nat.zero_lt_one);obtain⟨g1,g2,g3⟩:=h2 0 b (f,t) hb rfl;rw[hx]at g3;have e:=Option.some.inj g3;subst e;exact h b W hW hS g1 g2
def xK(ht:Nat.blt t a.tmps.size=true)(hu:Nat.blt u a.tmps.size=true)(hn:Nat.beq t u=false)(hi:Nat.blt i 1000=true)(hl:l.drop i=o::rest)(hd:(o.dst==some t)=false)(ac:(o.dst==some u)=false)(h:∀x y,∃v,Region.wanted o (yielded l.toArray ((a.put (some t) x).put (some u) y).tmps)=true/\(∀w,S w->(execOp ((a.put (some t) x).put (some u) y).eval o).run P w=.ok (.value v) w)/\aN P l.toArray Q S [(f,t),(g,u)] N T z ord2 is (((a.put (some t) x).put (some u) y).put o.dst v) w):aN P l.toArray Q S [(f,t),(g,u)] N T z ord2 (i::is) a w:=by
 unfold aN;rw[if_pos hi];intro a' ab;obtain⟨x,y,rfl,_⟩:=sP ab ht hu hn;obtain⟨v,h1,h2,h3⟩:=h x y;refine⟨o,v,eM hl,Or.inl ⟨h1,h2⟩,fun p hp=>?_,h3⟩;simp only[Og,Oh,or_false]at hp;rcases hp with rfl|rfl
 ·simpa using hd
 ·simpa using ac
def xL(ht:Nat.blt t a.tmps.size=true)(hu:Nat.blt u a.tmps.size=true)(hn:Nat.beq t u=false)(hi:Nat.blt i 1000=false)(hl:l.drop (i-1000)=o::rest)(h:∀x y W,eB w W->S W->Region.wanted o (yielded l.toArray ((a.put (some t) x).put (some u) y).tmps)=true/\∀K':Act->World->Prop,Shut (∀a2 w2,eB W w2->a2.tmps[t]? = some x->a2.tmps[u]? = some y->aN P l.toArray Q S [(f,t),(g,u)] N T z ord2 is a2 w2->K' a2 w2)->Oper.wp P o ((a.put (some t) x).put (some u) y) W K' Q) :aN P l.toArray Q S [(f,t),(g,u)] N T z ord2 (i::is) a w:=by
 unfold aN;rw[if_neg (by rw[hi];decide)];intro a' W ab hW hS;obtain⟨x,y,rfl,hx,hy⟩:=sP ab ht hu hn;obtain⟨h1,h2⟩:=h x y W hW hS;refine wpOp_step (eM hl) (fun K' hK=>?_);rw[if_pos h1];refine h2 K' (fun a2 w2 g1 g2 g3 g4=>hK a2 w2 ⟨g1,fun p hp=>?_,g4⟩);simp only[Og,Oh,or_false]at hp;rcases hp with rfl|rfl
 ·rw[hx];exact g2
 ·rw[hy];exact g3
def FP(ht:Nat.blt t a.tmps.size=true)(hu:Nat.blt u a.tmps.size=true)(hn:Nat.beq t u=false)(h:∀b c W,eB w W->S W->N<=b->N<=c->b≠c->Blk W b z T->Blk W c z T->aE P l.toArray Q S ord2 ((a.put (some t) (fH b)).put (some u) (fH c)) W):aN P l.toArray Q S [(f,t),(g,u)] N T z ord2 [] a w:=by
 unfold aN;intro a' W ab hW hS hE;obtain⟨x,y,rfl,hx,hy⟩:=sP ab ht hu hn;obtain⟨bs,h1,h0,h2⟩:=hE;obtain⟨b,hb⟩:=gx (l:=bs) (i:=0) (by rw[h1];exact Nat.zero_lt_succ _);obtain⟨c,hc⟩:=gx (l:=bs) (i:=1) (by rw[h1];exact Nat.one_lt_succ_succ _);obtain⟨g1,g2,g3⟩:=h2 0 b (f,t) hb rfl;obtain⟨k1,k2,k3⟩:=h2 1 c (g,u) hc rfl;rw[hx]at g3;rw[hy]at k3;have e:=Option.some.inj g3;have e':=Option.some.inj k3;subst e;subst e';exact h b c W hW hS g1 k1 (fun e=>by subst e;exact absurd (h0 0 1 b hb hc) (by decide)) g2 k2
end
section
variable {P:Program} {As Bs:List Asn} {l rest:List Oper} {Q:Exit->Act->World->Prop} {N:Nat} {T:TypeId} {z:List Value} {ord2:List Nat} {i f t:Nat} {is:List Nat} {o:Oper} {a:Act} {ax a':Value->Act} {w:World} {v:Value} {x y:Operand} {ι:Type} {g:ι->List Asn}
def dH(N:Nat)(As:List Asn)(w:World):Prop:=∃w0:World,w0.heap.size=N/\Sep As w0/\eB w0 w
def dH.ext{W}(h:dH N As w)(hb:eB w W):dH N As W:=let ⟨w0,h1,h2,h3⟩:=h;⟨w0,h1,h2,h3.trans (hb.mono h3.size)⟩
def dH.sep(h:dH N As w):Sep As w:=let ⟨_,_,h2,h3⟩:=h;h2.ext h3
def dH.of(M:Sep As w):dH w.heap.size As w.drew:=⟨w,rfl,M,(NB _ _).drew⟩
def fq(h:∀x,aN P l.toArray Q (fun W=>∃z,Sep (g z) W) [(f,t)] N T z ord2 is (a' x) w)(hi:Nat.blt i 1000=true:=by rfl)(hl:l.drop i=o::rest:=by rfl)(hk:su o.op=true:=by rfl)(e0:∀x,a.put (some t) x=ax x:=by intro x;(try simp only[PT]);try rfl)(hq:∀z x,Qt P (g z) o.op (ax x) v:=by intro z x;first
  |exact .load rfl rfl (by infer_instance) cj
  |exact .len rfl rfl (by infer_instance) (by infer_instance) (by kernel_rfl)
  |exact .elem rfl rfl (by assumption) (by infer_instance) cj
  |exact .part rfl rfl (by assumption) (by infer_instance) cj)
 (ht:Nat.blt t a.tmps.size=true:=by rfl) (hd:(o.dst==some t)=false:=by rfl) (hw:∀x,Region.wanted o (yielded l.toArray (ax x).tmps)=true:=by intro x;rfl) (e:∀x,(ax x).put o.dst v=a' x:=by intro x;(try simp only[PT]);try rfl):aN P l.toArray Q (fun W=>∃z,Sep (g z) W) [(f,t)] N T z ord2 (i::is) a w:=
 kp ht hi hl hd fun x=>⟨v,by rw[e0];exact hw x,fun w ⟨z,hS⟩=>by rw[e0];exact(hq z x).run hS,by rw[e0,e];exact h x⟩
def fQ(h:∀x,aN P l.toArray Q (fun W=>∃z,Sep (g z) W) [(f,t)] N T z ord2 is (a' x) w)(hi:Nat.blt i 1000=true:=by rfl)(hl:l.drop i=o::rest:=by rfl)(e0:∀x,a.put (some t) x=ax x:=by intro x;(try simp only[PT]);try rfl)(hy:∀x w,(execOp (ax x).eval o).run P w=.ok (.value v) w:=by(intro x w;go_simp;try(with_reducible rfl)))(ht:Nat.blt t a.tmps.size=true:=by rfl)(hd:(o.dst==some t)=false:=by rfl)(hw:∀x,Region.wanted o (yielded l.toArray (ax x).tmps)=true:=by intro x;rfl)(e:∀x,(ax x).put o.dst v=a' x:=by intro x;(try simp only[PT]);try rfl):aN P l.toArray Q (fun W=>∃z,Sep (g z) W) [(f,t)] N T z ord2 (i::is) a w:=
 kp ht hi hl hd fun x=>⟨v,by rw[e0];exact hw x,fun w _=>by rw[e0];exact hy x w,by rw[e0,e];exact h x⟩
def fi{H:Nat->Nat->Prop}{a':Nat->Nat->Value->Act}(h:∀b q,H b q->∀x,aN P l.toArray Q (fun W=>∃z,Sep (g z) W) [(f,t)] N T z ord2 is (a' b q x) w)(hi:Nat.blt i 1000=true:=by rfl)(hl:l.drop i=o::rest:=by rfl)(hk:wF o.op=true:=by rfl)(e0:∀x,a.put (some t) x=ax x:=by intro x;(try simp only[PT]);try rfl)(hs:∀u,∃tt x y v,∃(α:Type)(k:Nat) (n:Int) (xl:List α) (f:α->List Value) (e:α) (kk:IntKind) (w1:World),o.op=.indexAddr tt x y/\evo (ax u) x=some v/\(ax u).eval y=.int kk n/\(∀z,Old (g z) w1)/\ah w1 v α k xl f/\(0<=n/\xl[n.toNat]? = some e)/\slK P tt k=true/\H=(fun b q=>Hid (∀W,eB w1 W->W.rangeAt b q (f e))):=by
  intro u;first
  |exact⟨_,_,_,_,_,_,_,_,_,_,_,_,rfl,rfl,rfl,by intro z;infer_instance,by infer_instance,⟨Int.natCast_nonneg _,by(try rw[NI]);assumption⟩,by kernel_rfl,rfl⟩
  |exact⟨_,_,_,_,_,_,_,_,_,_,_,_,rfl,rfl,rfl,by intro z;infer_instance,by infer_instance,Hid.out (by assumption),by kernel_rfl,rfl⟩)
 (ht:Nat.blt t a.tmps.size=true:=by rfl) (hd:(o.dst==some t)=false:=by rfl) (hw:∀x,Region.wanted o (yielded l.toArray (ax x).tmps)=true:=by intro x;rfl) (e:∀b q x,(ax x).put o.dst (.pointer (some ⟨b,q,none⟩))=a' b q x:=by intro b q x;(try simp only[PT]);try rfl):aN P l.toArray Q (fun W=>∃z,Sep (g z) W) [(f,t)] N T z ord2 (i::is) a w:=
 kp ht hi hl hd fun u=>by
  obtain⟨tt,x,y,v,α,k,n,xl,g,el,kk,w1,ho,hx,hy,hO,hR,he,hT,rfl⟩:=hs u;obtain⟨j,rfl⟩:∃j:Nat,n=(j:Int):=⟨n.toNat,by have:=he.1;omega⟩
  obtain⟨b,q,hE,ab⟩:=pt (P:=P) (kk:=kk) hR.out (by simpa using he.2) hT;rw[e0];refine⟨.pointer (some ⟨b,q,none⟩),hw u,fun w _=>?_,by rw[e];exact h b q hE u⟩;unfold execOp;simp only[ho,bU hx,hy,ab,NM,NO,NN]
def fc{fn:FuncId}{xs:List Operand}{vs us cs:List Value}{ts:Array TypeId}(M:dH N As w)(h:∀W,dH N As W->∀x,aN P l.toArray Q (fun W=>∃z,Sep (g z) W) [(f,t)] N T z ord2 is (a' x) W)(hi:Nat.blt i 1000=false:=by rfl)(hl:l.drop (i-1000)=o::rest:=by rfl)(e0:∀x,a.put (some t) x=ax x:=by intro x;(try simp only[PT]);try rfl)(ho:o.op=.call {callee:= .value y,args:=xs.toArray,argTypes:=ts}:=by rfl)(hf:∀x,evo (ax x) y=some (.func (.func fn) #[] cs.toArray):=by intro x;rfl)(hx:∀x,evl (ax x) xs=some vs:=by intro x;rfl)(hv:vs++cs=us:=by(try simp only[MZ,M9,Oz]);try rfl)(hC:aB P fn us.toArray As v:=by infer_instance)(ab:∀w,(callFunc fn us.toArray).run P w=.ok (.enter fn us.toArray) w:=by intro w;simp)(ht:Nat.blt t a.tmps.size=true:=by rfl)(hd:(o.dst==some t)=false:=by rfl)(hw:∀x,Region.wanted o (yielded l.toArray (ax x).tmps)=true:=by intro x;rfl)(e:∀x,(ax x).put o.dst v=a' x:=by intro x;(try simp only[PT]);try rfl):aN P l.toArray Q (fun W=>∃z,Sep (g z) W) [(f,t)] N T z ord2 (i::is) a w:=by
 subst hv;refine lE ht hi hl fun x W hW _=>⟨by rw[e0];exact hw x,fun K hK=>?_⟩
 have M1:=M.ext hW;have hm:=kd (hx x);have e1:(execOp (ax x).eval o).run P W=.ok (.enter fn (vs++cs).toArray) W:=by
  unfold execOp;simp[ho,resolve,hm,bU (hf x),Deferred.ofValue,invoke,NM,NO,NN];have:=ab W;simpa using this
 have hp:(a.put (some t) x).tmps[t]? = some x:=by
  rw[Nat.blt_eq]at ht;simp[Act.put,ht]
 rw[e0]at hp⊢;unfold Oper.wp;rw[e1,Oper.upon_enter];refine(hC.out W M1.sep).mono ?_;rintro _ w2 ⟨rfl,hb⟩;refine hK.out _ _ hb ?_ (by rw[e];exact h w2 (M1.ext hb) x)
 cases ac:o.dst with
 |none=>exact hp
 |some d=>
  rw[ac]at hd
  have:d≠t:=by simpa using hd
  simp only[Act.put]
  rw[OD this]
  exact hp
def fz{Cz}{a'}(M:Sep As w)(h:∀W,Sep Cz W->aE P l.toArray Q (fun W=>∃z,Sep (g z) W) is a' W)(hi:Nat.blt i 1000=false:=by rfl)(hl:l.drop (i-1000)=o::rest:=by rfl)(hs:St P As o.op a (fun _ _=>Hid True) (fun _ _=>Cz) (fun _ _=>v):=by first
  |exact .call rfl rfl rfl (by(try simp only[MZ,M9,Oz]);rfl) (by infer_instance) (by(try simp only[PS]);try rfl) (by intro w;simp)
  |exact .store rfl rfl rfl (by infer_instance) (by first|exact .cell (by first|rfl|(simp;omega)) (by rfl) (by(try simp only[PT]);rfl) (by rfl)|exact .row rfl rfl (by first|rfl|exact Fct.out) (by rfl)) (by(try simp only[PS]);try rfl))
 (hz:∃z,g z=Cz.drop 1:=by first|exact⟨true,rfl⟩|exact⟨_,rfl⟩|exact⟨(_,_),rfl⟩|exact⟨(_,_,_),rfl⟩) (hw:Region.wanted o (yielded l.toArray a.tmps)=true:=by rfl) (e:a.put o.dst v=a':=by(try simp only[PT]);try rfl) :
 aE P l.toArray Q (fun W=>∃z,Sep (g z) W) (i::is) a w:=
 sc M h hi hl hs (let ⟨z,h⟩:=hz;⟨z,1,h⟩) hw e
def fe{a':Nat->Act}(M:dH N As w)(h:∀b W,Sep (.box b z T::As) W->aE P l.toArray Q (fun W=>∃z,Sep (g z) W) ord2 (a' b) W)(ht:Nat.blt t a.tmps.size=true:=by rfl)(e:∀b,a.put (some t) (fH b)=a' b:=by intro b;unfold fH;(try simp only[PT]);try rfl):aN P l.toArray Q (fun W=>∃z,Sep (g z) W) [(f,t)] N T z ord2 [] a w:=
 sV ht fun b W hW _ hN hB=>by
  obtain⟨w0,rfl,M0,hb⟩:=M.ext hW;rw[e];exact h b W (M0.push hb (G:=fun k=>k=b) ⟨hB,fun _=>Iff.rfl⟩ fun k hk=>by rw[hk];exact hN)
def mf{id:Nat}{h:ι->List Asn}(M:Sep As w)(f t:Nat)(ab ord2:List Nat)(k:∀W,dH w.heap.size As W->aN P l.toArray Q (fun W=>∃z,Sep (g z) W) [(f,t)] w.heap.size T z ord2 ab a W)(hA:Ab As h:=by infer_instance)(e:∀z,h z=g z:=by intro z;(try simp only[PS]);try rfl)(hl:l.drop f=o::rest:=by rfl)(ho:o.op=.alloc T:=by rfl)(hz:(P.info? T).map (·.zero)=some (some (.agg z.toArray)):=by rfl)(hm:P.follows .mixedOrders=true:=by kernel_rfl)(ac:nF l [(f,t)] T ab ord2=true:=by kernel_rfl)(ht:([(f,t)].all fun p=>Nat.blt p.2 a.tmps.size)=true:=by rfl)(hQ:∀(i:Nat)(o),l.toArray[i]? = some o->∀c (a:Act) (v) (w),Q (.panic c) (a.put o.dst v) w->Q (.panic c) a w:=by(intro i o _ c a v w;generalize o.dst=d;cases d <;> exact fun h=>h)):(Code.region id l.toArray true).wp P Q a w:=
 have _:=hl
 have _:=ho
 sU (S:=fun W=>∃z,Sep (g z) W) [(f,t)] ab ord2 T z hm ac ht (by simp) hz (fun _ _ ⟨z,h⟩ hb=>⟨z,h.ext hb⟩) (let ⟨z,hz⟩:=hA.out;⟨z,by rw[<-e,hz];exact M.drew⟩) (k _ (.of M)) hQ
end
section
def gJ{s:SrcR}{a:aw}{x}(hU:bI s.units)(ha:bM s a=true)(h:amtR s a=some x):x.ok/\x.neg=false/\x.n≠0:=by
 obtain⟨ii,uu,iu,nn,dn,it,u,v,h1,h2,h3,h4,h5,h6,h7,h8,h9,ag,al,ac,ad⟩:=nB ha;unfold amtR at h;rw[h1,NI,h2]at h;have ab:=fE;rw[h8,h9,NI,NI]at h;obtain⟨g1,g2,g3⟩:=Ft hU.good (dq (neg:=false) (n:=nn) (d:=dn)) rfl h;exact⟨g1,g2,g3 (pM (by omega) (by omega))⟩
def massR(s:SrcR)(a:aw):Option Rt:=match amtR s a with
 |some x=>match s.items[a.itemNo.toNat]? with
  |some it=>mulR x (lowR false it.massN.toNat it.massD.toNat)
  |none=>none
 |none=>none
attribute [local simp] calcV
def Gh(s)(a:aw)(w)(hS:ap w s)(hU:bI s.units)(al:∀i∈s.items,eE s i=true)(ha:bM s a=true)(hT:Tab w):Calls prog 268 #[cS s,xI a] w (Ret w (calcV (massR s a))):=by
 show Calls _ _ #[.agg (srcC s).toArray,.agg (aG a).toArray] _ _;obtain⟨ii,uu,iu,nn,dn,it,u,v,h1,h2,h3,h4,h5,h6,h7,h8,h9,ar,av,an,ao⟩:=nB ha;have hit:=al it (Oc h2);unfold eE at hit;simp only[btw,Ob,decide_eq_true_eq]at hit;obtain⟨⟨_,hm1,ax⟩,⟨aA,ba⟩,_⟩:=hit;obtain⟨mn,ad⟩:∃m:Nat,it.massN=m:=⟨it.massN.toNat,by omega⟩
 obtain⟨md,ac⟩:∃m:Nat,it.massD=m:=⟨it.massD.toNat,by omega⟩
 have ab:=fE;have ag:massR s a=match amtR s a with|some x=>mulR x (lowR false mn md)|none=>none:=by
  unfold massR;rw[h1,NI,h2];simp only[ad,ac,NI]
 have hz:Hid (0<=a.itemNo/\s.items[a.itemNo.toNat]? = some it):=⟨by omega,by rw[h1];exact h2⟩
 haveI:=Fct.mk hS;haveI:=Fct.mk hT;haveI:=Fct.mk hU;haveI:=Fct.mk ha;haveI:Fct (lowR false mn md).ok:=⟨dq (by omega) (by omega) (by omega)⟩
 haveI hN:∀As [Old As w],aB prog 33 #[.int .i64 it.massN,.int .i64 it.massD] As (.tuple #[.agg (rtC (lowR false mn md)).toArray,.int .i64 0]):=fun As _=>⟨fun W M=>by
  rw[ad,ac];exact ej mn md W (by omega) (by omega) (by omega) (hT.below M.bel)⟩
 have M:=Sep.new w;rw[ag];generalize lowR false mn md=rr at *;clear ad ac ag h1 h2 h3 h4 h5 h6 h7 h8 h9 ab ar av an ao
 cases hg:amtR s a
 case' some x=>
  haveI:=Fct.mk (gJ hU ha hg).1
  cases hm:mulR x rr
 case none=>
  go_enter func268,ntmps268;go_wp2_with refine mz M fun M=>?_;refine mr M ⟨?_,M.bel⟩;simp;try rfl
 all_goals
  go_enter func268,ntmps268
  go_wp2_with refine mz M fun M=>?_
  refine mf M 18 7 [0,1,2,3,4,5,6,7,8,9,10,11,12,13,1014,15,16,17] [1019,20] fun _ M=>?_
  repeat(first|refine fq fun _=>?_|refine fi fun _ _ _ _=>?_|refine fc M fun _ M _=>?_|refine fe M fun _ _ M=>?_|refine fQ fun _=>?_|refine fz M fun _ M=>?_|refine sz M fun M=>?_|refine sj M fun M=>?_|refine sv M fun M=>?_|refine sp M fun M=>?_|refine sQ ?_)
  try refine aj ?_
  go_wp2_with refine mz M fun M=>?_
  refine mr M ⟨?_,M.bel⟩
  simp[*]
  try rfl
end
section
structure im(s:SrcR)(r:RecR):Prop where
 out:∃a,r.outs[0]? = some a/\bM s a=true
 num:∃n d:Nat,r.reworkN=n/\r.reworkD=d/\n<d/\d<=1048576
def lK{s}{r}(h:bG s r=true):im s r:=by
 unfold bG kj at h;simp only[btw,Ob,decide_eq_true_eq]at h;obtain⟨_,_,_,h1,⟨⟨⟨_,h2⟩,h3,_⟩,_⟩,_,h4,_⟩:=h;refine⟨?_,r.reworkN.toNat,r.reworkD.toNat,by omega,by omega,by omega,by omega⟩;unfold km at h1;simp only[Ob]at h1
 cases ha:r.outs[0]? with
 |none=>rw[ha]at h1;cases h1.1
 |some a=>exact⟨a,rfl,(Bool.and_eq_true_iff.1 (Od.1 h1.2.1 a (Oc ha))).1⟩
attribute [local simp] calcV
def GE(s)(r)(w)(hS:ap w s)(hR:aQ w r)(hU:bI s.units)(hO:im s r)(hT:Tab w):Calls prog 130 #[cS s,.agg (am r).toArray] w (Ret w (calcV (goodR s r))):=by
 show Calls _ _ #[.agg (srcC s).toArray,_] _ _;obtain⟨⟨a0,ag,al⟩,n,d,hn,hd,ao,an⟩:=hO;have ac:=fE;have ab:(d:Int)-(n:Int)=((d-n:Nat):Int):=by omega
 have ad:goodR s r=(amtR s a0).bind fun x=>mulR x (lowR false (d-n) d):=by
  unfold goodR;rw[ag,hn,hd,ab];simp only[NI];cases amtR s a0 <;> rfl
 haveI:=Fct.mk hS;haveI:=Fct.mk hR;haveI:=Fct.mk hT;haveI:=Fct.mk hU;haveI:=Fct.mk al;haveI h2:∀As [Old As w],Con prog 33 #[.int .i64 (r.reworkD-r.reworkN),.int .i64 r.reworkD] As (.tuple #[.agg (rtC (lowR false (d-n) d)).toArray,.int .i64 0]) As:=fun As _=> .ret fun W M=>by
  rw[hn,hd,ab];exact ej (d-n) d W (by omega) (by omega) (by omega) (hT.below M.bel)
 haveI:Fct (lowR false (d-n) d).ok:=⟨dq (by omega) (by omega) (by omega)⟩
 have hz:Hid ((0:Int)<=0/\r.outs[(0:Int).toNat]? = some a0):=⟨by omega,ag⟩
 have g0:0<=r.reworkN:=by omega
 have g1:r.reworkN<r.reworkD:=by omega
 have g2:r.reworkD<=1048576:=by omega
 have M:=Sep.new w;rw[ad];generalize lowR false (d-n) d=rr at *;clear ad ab ao an ac hn hd
 cases hg:amtR s a0
 case' some x=>
  haveI:=Fct.mk (gJ hU al hg).1
  cases hm:mulR x rr
 all_goals
  go_enter func130,ntmps130
  go_wp2_with refine mz M fun M=>?_
  refine mf M 9 6 [0,1,2,3,4,1005,6,7,8] [1010,11] fun _ M=>?_
  repeat(first|refine fq fun _=>?_|refine fi fun _ _ _ _=>?_|refine fc M fun _ M _=>?_|refine fe M fun _ _ M=>?_|refine fQ fun _=>?_|refine fz M fun _ M=>?_|refine sz M fun M=>?_|refine sj M fun M=>?_|refine sv M fun M=>?_|refine sp M fun M=>?_|refine sQ ?_)
  try refine aj ?_
  go_wp2_with refine mz M fun M=>?_
  refine mr M ⟨?_,M.bel⟩
  simp[*]
  try rfl
end
inductive InB:List (Nat×Value)->In->Prop
 |a {k:Int}:InB [(0,.int .i64 k)] ⟨k,0,0,false,⟨#[]⟩,⟨#[]⟩⟩
 |b {k a:Int}:InB [(0,.int .i64 k),(1,.int .i64 a)] ⟨k,a,0,false,⟨#[]⟩,⟨#[]⟩⟩
 |c {k a b:Int}:InB [(0,.int .i64 k),(1,.int .i64 a),(2,.int .i64 b)] ⟨k,a,b,false,⟨#[]⟩,⟨#[]⟩⟩
 |d {k a:Int} {g:Bool} {n d:ByteArray}:InB [(0,.int .i64 k),(1,.int .i64 a),(3,.agg #[.bool g,.string n,.string d])] ⟨k,a,0,g,n,d⟩
 |e {k a b:Int} {g:Bool} {n d:ByteArray}:InB [(0,.int .i64 k),(1,.int .i64 a),(2,.int .i64 b),(3,.agg #[.bool g,.string n,.string d])] ⟨k,a,b,g,n,d⟩
def InB.out{vs:List (Nat×Value)}{x:In}(h:InB vs x):prog.built 72 vs=some (au x).toArray:=by cases h <;> kernel_rfl
def mI{ops}{rest}{Q}{oper:Oper}{a a'}{w}{ps:List (Nat×Operand)}{vs:List (Nat×Value)}{x:In}(h:wpList prog ops Q rest a' w)(ho:oper.op=.build 72 ps.toArray:=by rfl)(hp:evp a ps=some vs:=by rfl)(hb:InB vs x:=by first|exact .a|exact .b|exact .c|exact .d|exact .e)(hw:Region.wanted oper (yielded ops a.tmps)=true:=by rfl)(e:a.put oper.dst (.agg (au x).toArray)=a':=by(try simp only[PT]);try rfl):wpList prog ops Q (oper::rest) a w:=mk (au x) h ho hp hb.out hw e
def eH(pb:Nat)(L:List In):gC where
 rw:=True
 p W F:=∃v,(Blk W pb [v] 153/\aa W 0 72 6 v (L.map au))/\∀k,F k<->k=pb\/v.ownBlock=some k
 loc:=fun⟨v,⟨h1,h2⟩,h3⟩ h=>⟨v,⟨(h.block pb ((h3 pb).2 (.inl rfl))).trans h1,h2.of_block fun g hg=>h.block g ((h3 g).2 (.inr hg))⟩,h3⟩
 lt:=fun⟨_,⟨h1,h2⟩,h3⟩ k hk=>((h3 k).1 hk).elim (fun e=>e▸h1.lt) h2.lt
class lL(As:List Asn)(pb:Nat)(L:outParam (List In))(i:outParam Nat):Prop where
 out:As[i]? = some (.any (eH pb L))
section
variable {As:List Asn} {A:Asn} {w W:World} {pb b i j:Nat} {L R:List In} {x:In}
instance:lL (.any (eH pb L)::As) pb L 0:=⟨rfl⟩
instance[h:lL As pb L i]:lL (A::As) pb L (i+1):=⟨h.out⟩
def Sep.prg0(M:Sep (.box pb [.slice none 0 0] 153::As) w):Sep (.any (eH pb [])::As) w:=
 M.upd (i:=0) (A':= .any (eH pb [])) rfl trivial fun _ ⟨h1,h2⟩=>⟨⟨rfl,rfl,rfl,No _,fun _ _=>rfl⟩,fun k=>k=pb,⟨_,⟨h1,aa.none_ _ _ _ _⟩,fun k=>⟨.inl,fun h=>h.elim id fun e=>by cases e⟩⟩,fun k hk=> .inl ((h2 k).2 hk)⟩
def Sep.p0(_:Sep (.any (eH pb L)::As) w)(R:List In)(W:World):Prop:=Sep (.any (eH pb R)::As) W
def Sep.opn(M:Sep (.any (eH pb L)::As) w):∃v,Sep (.box pb [v] 153:: .row v 72 6 (L.map au)::As) w:=by
 obtain⟨F,h1,h2⟩:=M;obtain⟨v,⟨hb,ho⟩,hF⟩:=h1 0 _ rfl;refine⟨v,fun i=>match i with|0=>fun k=>k=pb|1=>fun k=>v.ownBlock=some k|i+2=>F (i+1),fun i A hA=>?_,fun i j A B hA hB ac hr k hk ab=>?_⟩
 ·match i,hA with
  |0,hA=>cases hA;exact⟨hb,fun _=>Iff.rfl⟩
  |1,hA=>cases hA;exact⟨ho,fun _=>Iff.rfl⟩
  |i+2,hA=>exact h1 (i+1) A hA
 ·have hx:∀k,v.ownBlock=some k->k≠pb:=fun k e=>ho.ne_blk hb (by decide) k e;match i,j,hA,hB with
  |0,0,_,_=>exact ac rfl
  |1,1,_,_=>exact ac rfl
  |0,1,_,_=>exact hx k ab hk
  |1,0,_,_=>exact hx k hk ab
  |0,j+2,_,hB=>exact h2 0 (j+1) _ B rfl hB (by omega) trivial k ((hF k).2 (.inl hk)) ab
  |1,j+2,_,hB=>exact h2 0 (j+1) _ B rfl hB (by omega) trivial k ((hF k).2 (.inr hk)) ab
  |i+2,0,hA,_=>exact h2 (i+1) 0 A _ hA rfl (by omega) hr k hk ((hF k).2 (.inl ab))
  |i+2,1,hA,_=>exact h2 (i+1) 0 A _ hA rfl (by omega) hr k hk ((hF k).2 (.inr ab))
  |i+2,j+2,hA,hB=>exact h2 (i+1) (j+1) A B hA hB (by omega) hr k hk ab
def Sep.addP(M:Sep As w)(h:lL As pb L i){lv}(hR:RowC w 6 lv (R.map au))(hl:L.length+R.length<=16777216):Calls prog 78 #[.pointer pb,lv] w (Cs (.tuple #[]) (As.set i (.any (eH pb (L++R))))):=by
 have M0:=M;obtain⟨F,h1,_⟩:=M0;obtain⟨v,⟨hv,ho⟩,_⟩:=h1 i _ h.out;refine(th pb 0 v lv L R w hv ho hR hl (Nu _)).mono ?_;rintro e W ⟨rfl,v',w1,a1,a2,a3,a4,a5⟩;refine⟨rfl,M.upd h.out trivial fun F ⟨u,⟨c1,_⟩,hF⟩=>?_⟩;obtain rfl:u=v:=by
  have:=(c1.at 0 _ rfl).1;rw[(hv.at 0 _ rfl).1]at this;exact(Option.some.inj this).symm
 exact⟨⟨a4.os.trans a3.os,a4.tape.trans a3.tape,a4.output.trans a3.output,Nv a3.size a4.size,fun k ⟨hk,hn⟩=>(a4.block k (Nf hk a3.size) (fun e=>hn ((hF k).2 (.inl (Option.some.inj e))))).trans (a3.block k hk fun e=>hn ((hF k).2 (.inr e.symm)))⟩,fun k=>k=pb\/v'.ownBlock=some k,⟨v',⟨a1,a2⟩,fun _=>Iff.rfl⟩,
  fun k hk=>hk.elim (fun e=> .inl ((hF k).2 (.inl e))) fun e=>a5.elim (fun q=> .inl ((hF k).2 (.inr (q▸e)))) fun q=> .inr (Nat.le_of_eq (Option.some.inj (q.symm.trans e)))⟩
instance add_s[h:lL As pb L i][hb:Has As b (au x) 72 j][hl:Fct (L.length<16777216)]:Con prog 78 #[.pointer pb,.slice b 1 1] As (.tuple #[]) (As.set i (.any (eH pb (L++[x])))):=
 ⟨fun _ M=>M.addP h (RowC.of_blk (M.blk hb) ([x].map au) rfl (n:=1) (fun c hc=>by obtain⟨y,_,rfl⟩:=List.mem_map.1 hc;rfl) rfl 1 (No 1)) hl.out⟩
def Sep.rs{v}{T}{k:Nat}{Ls:List (List Value)}(M:Sep As w)(i:Nat)(h:As[i]? = some (.row v T k Ls):=by rfl):∃A m c,v=.slice A m c:=let ⟨A,c,e⟩:=(M.own ⟨h⟩).slice;⟨A,_,c,e⟩
def Sep.b2r{T:TypeId}{cells}{k:Nat}(M:Sep (.box b cells T::As) w)(Ls:List (List Value))(he:cells=Ls.flatten)(hk:∀c∈Ls,c.length=k)(hl:Ls.length<=16777216):Sep (.row (.slice b Ls.length Ls.length) T k Ls::As) w:=
 M.upd (i:=0) (A':= .row (.slice b Ls.length Ls.length) T k Ls) rfl trivial fun _ ⟨h1,h2⟩=>⟨⟨rfl,rfl,rfl,No _,fun _ _=>rfl⟩,fun k=>some b=some k,⟨aa.of_new h1 he hk (Nu _) hl,fun _=>Iff.rfl⟩,fun k hk=> .inl ((h2 k).2 (Option.some.inj hk).symm)⟩
end
def GG(w:World)(r:RecR)(e:Ending)(w':World):Prop:=eB w w'/\∃v,e=.returned v/\aa w' w.heap.size 72 6 v ((ct r).map au)
def GH(x)(w)(hx:aQ w x):Calls prog 81 #[.agg (am x).toArray] w (GG w x):=by
 haveI:=Fct.mk hx;have hl:=hx.ifl;unfold BIG at hl;have M:=Sep.new w;go_enter func81,ntmps81;go_wp2_with(first|refine mz M fun M=>?_|(refine mI ?_)|refine mp M fun M=>?_|refine mv M fun M=>?_);replace M:=M.b2r (k:=6) [au (dz (-1) x.frm),au (dz (-2) x.til)] rfl (fun c hc=>by simp only[Og,Oh,or_false]at hc;rcases hc with rfl|rfl <;> rfl) (by simp);go_loopw [2,15] (fun v z W=>∃k:Nat,k<=x.ifs.length/\z=.int .i64 k/\M.r1 0 v ((i7 x k).map au) W) (fun _ z _=>x.ifs.length-(intOf z).toNat)
 case atStart=>exact⟨0,Nu _,rfl,M⟩
 obtain⟨k,hk,rfl,M⟩:=hrel;simp only[Sep.r1,upR]at M;obtain⟨A,m,c,rfl⟩:=M.rs 0;by_cases ab:k<x.ifs.length
 case neg=>
  obtain rfl:k=x.ifs.length:=by omega
  go_wp2_with(first|refine mz M fun M=>?_|(refine mI ?_)|refine mp M fun M=>?_|refine mv M fun M=>?_);have h:=M.own1;rw[show i7 x x.ifs.length=ct x by unfold i7 ct;rw[OK]]at h;refine mr M ?_;exact⟨M.bel,_,rfl,h⟩
 obtain⟨c,hc⟩:=gx (l:=x.ifs) (i:=k) ab;have hL:((i7 x k).map au).length<=16777216:=by rw[N6];have:=Gx x k;omega
 go_wp2_with(first|refine mz M fun M=>?_|(refine mI ?_)|refine mp M fun M=>?_|refine mv M fun M=>?_);go_roundw
 case rel=>exact⟨k+1,by omega,by go_num,by show Sep _ _;rw[Gw hc,N9];exact M.dr 2⟩
 case measure=>simp[intOf];omega
section
def yB(w:World)(o:Option (List In))(e:Ending)(w':World):Prop:=eB w w'/\match o with
 |some c=>∃v,e=.returned (.tuple #[v,.int .i64 0])/\aa w' w.heap.size 72 6 v (c.map au)
 |none=>e=.returned (.tuple #[.slice none 0 0,.int .i64 2])
def io{w}{r}(h:aQ w r):((am r).all fun v=>v.oneCell')=true:=by
 obtain⟨_,_,_,_,_,_,_,_,_,_,_,_,f1,f2,f3,f4,_,_⟩:=h.slices';unfold am;rw[f1,f2,f3,f4];rfl
def RowC.rng{w}{k:Nat}{v}{L:List (List Value)}(h:RowC w k v L){F}{n c:Nat}(e:v=.slice F n c){i:Nat}{x}(hx:L[i]? = some x):∃b off,F=some ⟨b,off,none⟩/\∀W,eB w W->W.rangeAt b (off+i*k) x:=by
 obtain⟨A,cap,e',_,h⟩:=h;rw[e]at e';injection e' with e1 _ _;subst e1;obtain⟨b,off,rfl,hb,hc⟩:=h i x hx;exact⟨b,off,rfl,fun W hW j y hy=>(hW.cell (p:=⟨b,_,none⟩) hb).trans (hc j y hy)⟩
def tx{s}{op:Int}{bk:aw->Int}{a:aw}:∀{l:List aw} {k:Nat},l[k]? = some a->amtR s a=none->amtsI s op bk l=none
 |[],_,h,_=>by simp at h
 |b::l,0,h,ha=>by
  simp only[Oj,Option.some.injEq]at h;subst h;rw[amtsI,ha]
 |b::l,k+1,h,ha=>by
  rw[Ok]at h;rw[amtsI,tx h ha]
  cases amtR s b <;> rfl
def yC{s}{op:Int}{bk:aw->Int}{a:aw}{l:List aw}{k:Nat}{x}{m:List In}(hk:l[k]? = some a)(hx:amtR s a=some x)(hm:amtsI s op bk (l.take k)=some m):amtsI s op bk (l.take (k+1))=some (m++[bO op a.itemNo (bk a) x]):=by
 rw[Ox,hk,Option.toList,yu,hm,hx]
def kx{s}{r}(h:bG s r=true):(∀a∈r.ins,bM s a=true)/\(∀a∈r.outs,bM s a=true):=by
 unfold bG km at h;simp only[Ob,Od]at h;obtain⟨_,_,h1,⟨_,h2,_⟩,_⟩:=h;exact⟨h1,fun a ha=>(h2 a ha).1⟩
attribute [local simp] calcV
def GI(s)(no:Nat)(r)(w)(hS:ap w s)(hU:bI s.units)(hr:s.recs[no]? = some r)(hB:bG s r=true)(hT:Tab w):Calls prog 79 #[.agg (srcC s).toArray,.int .i64 (no:Int)] w (yB w (bodyR s no r)):=by
 have ad:=hS.recv r (Oc hr);haveI:=Fct.mk hS;haveI:=Fct.mk ad;haveI:=Fct.mk hU;haveI:=Fct.mk hT;haveI:=Fct.mk (io ad);haveI hg:∀As [Old As w],aB prog 130 #[.agg (srcC s).toArray,.agg (am r).toArray] As (calcV (goodR s r)):=fun As _=>⟨fun W M=>GE s r W (hS.below M.bel) (ad.below M.bel) hU (lK hB) (hT.below M.bel)⟩
 have av:=ad.inl;have ax:=ad.outl;have aA:=ad.runl;unfold BIG at av ax aA;obtain⟨fo,ac⟩:=nm (bodyR s no r);rw[ac];replace ac:=MY ac;have M:=Sep.new w
 cases ag:goodR s r
 case none=>
  rw[ag]at hg;simp only[calcV]at hg;have hf:fo=none:=by rw[<-ac.out];unfold bodyR;rw[ag]
  subst hf;clear ac ag;go_enter func79,ntmps79;go_wp2_with(first|refine mz M fun M=>?_|(refine mI ?_)|refine mp M fun M=>?_|refine mv M fun M=>?_);exact mr M ⟨M.bel,rfl⟩
 rename_i g;rw[ag]at hg;simp only[calcV]at hg;replace ac:Hid (fo=match amtsI s 4 gi r.ins with
  |some u=>match amtsI s 5 (fun _=>0) r.outs with
   |some o=>some (bO 3 no r.lead g::(u++(o++(dU r.runs++[opI 7 0 0]))))
   |none=>none
  |none=>none):=by
   show fo=_;rw[<-ac.out];unfold bodyR;rw[ag]
   cases amtsI s 4 gi r.ins <;> cases amtsI s 5 (fun _=>0) r.outs <;> rfl
 clear ag;go_enter func79,ntmps79;go_wp2_with(first|refine mz M fun M=>?_|(refine mI ?_)|refine mp M fun M=>?_|refine mv M fun M=>?_);replace M:=(M.pk [2,0,1,3,4,5]:Sep [_,_,_,_,_,_] _).prg0;haveI:Fct (([]:List In).length<16777216):=⟨by decide⟩
 go_wp2_with(first|refine mz M fun M=>?_|(refine mI ?_)|refine mp M fun M=>?_|refine mv M fun M=>?_);replace M:=(M.pk [0,3,4,5]:Sep [_,_,_,_] _)
 go_loopw [44] (fun z W=>∃(k:Nat)(m:List In),k<=r.ins.length/\z=.int .i64 k/\Hid (amtsI s 4 gi (r.ins.take k)=some m)/\Hid (m.length<=k)/\M.p0 (bO 3 no r.lead g::m) W) (fun z _=>r.ins.length-(intOf z).toNat)
 case atStart=>exact⟨0,[],Nu _,rfl,rfl,No _,M⟩
 obtain⟨k,m,hk,rfl,HM,an,M⟩:=hrel;simp only[Sep.p0]at M;by_cases al:k<r.ins.length
 case pos=>
  obtain⟨a,ha⟩:=gx (l:=r.ins) (i:=k) al;haveI:=Fct.mk ((kx hB).1 a (Oc ha));haveI:Fct ((bO 3 no r.lead g::m).length<16777216):=⟨by have:=an.out;simp only[M6];omega⟩
  cases hx:amtR s a
  case none=>
   have hf:fo=none:=by rw[ac.out,tx ha hx]
   subst hf;go_wp2_with(first|refine mz M fun M=>?_|(refine mI ?_)|refine mp M fun M=>?_|refine mv M fun M=>?_);exact mr M ⟨M.bel,rfl⟩
  rename_i x;have HN:=MY (yC ha hx HM.out);obtain⟨_,_,_,_,ab,_,_⟩:=a
  cases ab;all_goals
   go_wp2_with(first|refine mz M fun M=>?_|(refine mI ?_)|refine mp M fun M=>?_|refine mv M fun M=>?_)
   go_roundw
   case rel=>exact⟨k+1,_,by omega,by go_num,HN,by show _<=_;rw[Oe];have:=an.out;simp;omega,M.dr 3⟩
   case measure=>simp[intOf];omega
 obtain rfl:k=r.ins.length:=by omega
 rw[OK]at HM;have ar:Hid (amtsI s 5 (fun _=>0) r.outs=none->fo=none):=fun h=>by rw[ac.out,HM.out,h]
 go_wp2_with(first|refine mz M fun M=>?_|(refine mI ?_)|refine mp M fun M=>?_|refine mv M fun M=>?_);go_loopw [70] (fun z W=>∃(k:Nat)(p:List In),k<=r.outs.length/\z=.int .i64 k/\Hid (amtsI s 5 (fun _=>0) (r.outs.take k)=some p)/\Hid (p.length<=k)/\M.p0 (bO 3 no r.lead g::m++p) W) (fun z _=>r.outs.length-(intOf z).toNat)
 case atStart=>exact⟨0,[],Nu _,rfl,rfl,No _,by rw[Oz];exact M⟩
 obtain⟨k,p,hk,rfl,HP,ao,M⟩:=hrel;simp only[Sep.p0]at M;by_cases al:k<r.outs.length
 case pos=>
  obtain⟨a,ha⟩:=gx (l:=r.outs) (i:=k) al;haveI:=Fct.mk ((kx hB).2 a (Oc ha));haveI:Fct ((bO 3 no r.lead g::m++p).length<16777216):=⟨by have:=an.out;have:=ao.out;simp only[Oe,M6];omega⟩
  cases hx:amtR s a
  case none=>
   obtain rfl:=ar.out (tx ha hx);go_wp2_with(first|refine mz M fun M=>?_|(refine mI ?_)|refine mp M fun M=>?_|refine mv M fun M=>?_);exact mr M ⟨M.bel,rfl⟩
  rename_i x;have HN:=MY (yC ha hx HP.out);go_wp2_with(first|refine mz M fun M=>?_|(refine mI ?_)|refine mp M fun M=>?_|refine mv M fun M=>?_);go_roundw
  case rel=>exact⟨k+1,_,by omega,by go_num,HN,by show _<=_;rw[Oe];have:=ao.out;simp;omega,by show Sep _ _;rw[<-OL];exact M.dr 3⟩
  case measure=>simp[intOf];omega
 obtain rfl:k=r.outs.length:=by omega
 rw[OK]at HP;replace ac:Hid (fo=some (bO 3 no r.lead g::(m++(p++(dU r.runs++[opI 7 0 0]))))):=by show _=_;rw[ac.out,HM.out,HP.out]
 clear ar;go_wp2_with(first|refine mz M fun M=>?_|(refine mI ?_)|refine mp M fun M=>?_|refine mv M fun M=>?_);go_loopw [93] (fun z W=>∃k:Nat,k<=r.runs.length/\z=.int .i64 k/\M.p0 (bO 3 no r.lead g::m++p++dU (r.runs.take k)) W) (fun z _=>r.runs.length-(intOf z).toNat)
 case atStart=>exact⟨0,Nu _,rfl,by show Sep _ _;rw[N3,show dU []=[]from rfl,Oz];exact M⟩
 obtain⟨k,hk,rfl,M⟩:=hrel;simp only[Sep.p0]at M;haveI:Fct ((bO 3 no r.lead g::m++p++dU (r.runs.take k)).length<16777216):=⟨by have:=an.out;have:=ao.out;simp only[Oe,M6,dU,N6,Nz];omega⟩
 by_cases al:k<r.runs.length
 case pos=>
  obtain⟨x,hx⟩:=gx (l:=r.runs) (i:=k) al;have e:dU (r.runs.take (k+1))=dU (r.runs.take k)++[opI 6 x.machNo x.slots]:=by rw[Ox,hx];simp[dU]
  replace e:=MY e;go_wp2_with(first|refine mz M fun M=>?_|(refine mI ?_)|refine mp M fun M=>?_|refine mv M fun M=>?_);go_roundw
  case rel=>exact⟨k+1,by omega,by go_num,by show Sep _ _;rw[e.out,<-OL];exact M.dr 2⟩
  case measure=>simp[intOf];omega
 obtain rfl:k=r.runs.length:=by omega
 rw[OK]at M this;go_upto_region 32 with(first|refine mz M fun M=>?_|(refine mI ?_)|refine mp M fun M=>?_|refine mv M fun M=>?_)
 obtain⟨v,M⟩:=Sep.opn (M.dr 1);obtain⟨A,m',c,rfl⟩:=M.rs 1;go_wp2_with(first|refine mz M fun M=>?_|(refine mI ?_)|refine mp M fun M=>?_|refine mv M fun M=>?_);refine mr M ?_;rw[ac.out];refine⟨M.bel,_,rfl,?_⟩;simpa[OL,opI]using M.own1
end
section
def lM(s:SrcR):Prop:=s.recs.length<=64/\∀r∈s.recs,r.ifs.length<=1024/\r.ins.length<=1024/\r.outs.length<=1024/\r.runs.length<=1024
def tA{s}{op:Int}{bk:aw->Int}:∀{l:List aw} {m:List In},amtsI s op bk l=some m->m.length=l.length
 |[],m,h=>by simp only[amtsI,Option.some.injEq]at h;subst h;rfl
 |a::l,m,h=>by
  simp only[amtsI]at h;split at h
  ·split at h
   ·rename_i m' hm
    cases h;rw[M6,M6,tA hm]
   ·cases h
  ·cases h
def tB{s}{no:Nat}{r}{b:List In}(h:bodyR s no r=some b):b.length=r.ins.length+r.outs.length+r.runs.length+2:=by
 unfold bodyR at h;split at h
 ·split at h
  ·split at h
   ·rename_i u hu _ o ho
    cases h;have h1:=tA hu;have h2:=tA ho;simp only[M6,Oe,ND,dU,N6];omega
   ·cases h
  ·cases h
 ·cases h
def yD{s}{item plant:Int}{r}:∀{l:List RecR} {k j:Nat},l[j]? = some r->r.itemNo=item/\r.plantNo=plant->bodyR s (k+j) r=none->codeFrom s item plant l k=none
 |[],_,_,h,_,_=>by simp at h
 |q::l,k,0,h,h1,h2=>by
  simp only[Oj,Option.some.injEq]at h;subst h;rw[codeFrom,if_pos h1,show bodyR s k q=none from h2]
 |q::l,k,j+1,h,h1,h2=>by
  rw[Ok]at h;have:=yD (l:=l) (k:=k+1) (j:=j) h h1 (by rw[show k+1+j=k+(j+1) by omega];exact h2);rw[codeFrom,this];split
  ·cases bodyR s k q <;> rfl
  ·rfl
def qe{w}{s}(h:ap w s):((srcC s).all fun v=>v.oneCell')=true:=by
 obtain⟨_,_,_,_,_,_,_,_,_,_,_,_,_,_,_,_,e1,e2,e3,e4,e5,e6,e7,e8⟩:=h.slices;unfold srcC;rw[e1,e2,e3,e4,e5,e6,e7,e8];rfl
def Sep.rowN{As}{W W'}{v}{T}{k:Nat}{L:List (List Value)}(M:Sep As W)(hb:eB W W')(ho:aa W' W.heap.size T k v L):Sep (.row v T k L::As) W':=
 M.push hb (A:= .row v T k L) (G:=fun j=>v.ownBlock=some j) ⟨ho.less (Nu _),fun _=>Iff.rfl⟩ fun _ hj=>ho.ge hj
def Sep.prg{As}{w}{pb:Nat}{L:List In}(M:Sep As w)(i:Nat)(h:As[i]? = some (.any (eH pb L)):=by rfl):∃v,Blk w pb [v] 153/\aa w 0 72 6 v (L.map au):=let ⟨_,h1,_⟩:=M;let ⟨v,h,_⟩:=h1 i _ h;⟨v,h⟩
def eG.out{w}{pb g:Nat}{v}(h:eG w pb v g):g≠pb/\v.ownBlock≠some g:=⟨h.ne,h.own⟩
instance block_s{As:List Asn}{pb p9 ab i j r:Nat}{T9 ac:TypeId}{tv rv:Value}{L ts R:List In}[hP:lL As pb L i][h9:Has As p9 [nM pb] T9 j][hl:Fct (L.length+(2*ts.length+R.length)<=16777216)][hr:Fct (R.length=r)] :Con prog 80 #[nM pb,tv,tu p9 ab,.int .i64 (r:Int)] (.row tv 72 6 (ts.map au):: .box ab [rv] ac:: .row rv 72 6 (R.map au)::As) (.tuple #[]) (.row tv 72 6 (ts.map au):: .box ab [rv] ac:: .row rv 72 6 (R.map au)::As.set i (.any (eH pb (L++cy ts R)))):=⟨fun w M=>by
 have M0:=M;obtain⟨F,h1,h2⟩:=M0;have hp:=hP.out;obtain⟨v,⟨hv,ho⟩,hF⟩:=h1 (i+3) _ hp;have ha:∀(m:Nat)(B:Asn) (g:Nat),(.row tv 72 6 (ts.map au):: .box ab [rv] ac:: .row rv 72 6 (R.map au)::As)[m]? = some B->i+3≠m->F m g->eG w pb v g:=fun m B g hB ad hg=>⟨B.x.lt (h1 m B hB) g hg,fun e=>h2 (i+3) m _ B hp hB ad trivial g ((hF g).2 (.inl e)) hg,fun e=>h2 (i+3) m _ B hp hB ad trivial g ((hF g).2 (.inr e)) hg⟩
 have hj:i≠j:=fun e=>by subst e;have:=h9.out;rw[hp]at this;cases this
 obtain⟨t1,t2⟩:=h1 0 _ rfl;obtain⟨b1,b2⟩:=h1 1 _ rfl;obtain⟨r1,r2⟩:=h1 2 _ rfl;obtain⟨n1,n2⟩:=h1 (j+3) _ h9.out;refine(GF pb 0 p9 ab r rv R hr.out ts tv v L w hv ho (Nu _) t1.row (fun g hg=>ha 0 _ g rfl (by omega) ((t2 g).2 hg)) r1.row (fun g hg=>ha 2 _ g rfl (by omega) ((r2 g).2 hg)) (n1.at 0 _ rfl).1 (ha (j+3) _ p9 h9.out (by omega) ((n2 p9).2 rfl)) (b1.at 0 _ rfl).1 (ha 1 _ ab rfl (by omega) ((b2 ab).2 rfl)) (by rw[<-hr.out];exact hl.out)).mono ?_;rintro e W ⟨rfl,v',p',o',a'⟩;refine⟨rfl,M.upd (i:=i+3) (A':= .any (eH pb (L++cy ts R))) hp trivial fun G ⟨u,⟨c1,_⟩,hG⟩=>?_⟩;obtain rfl:u=v:=by
  have:=(c1.at 0 _ rfl).1;rw[(hv.at 0 _ rfl).1]at this;exact(Option.some.inj this).symm
 have hA:∀k,k<w.heap.size->¬G k->eG w pb u k:=fun k hk hn=>⟨hk,fun e=>hn ((hG k).2 (.inl e)),fun e=>hn ((hG k).2 (.inr e))⟩
 refine⟨⟨a'.os,a'.tape,a'.output,a'.size,fun k ⟨hk,hn⟩=>(a'.keep k (hA k hk hn)).2⟩,fun k=>k=pb\/v'.ownBlock=some k,⟨v',⟨p',o'⟩,fun _=>Iff.rfl⟩,fun k hk=>Classical.byContradiction fun hn=>?_⟩;rw[not_or,Nat.not_le]at hn;obtain⟨q1,q2⟩:=(a'.keep k (hA k hn.2 hn.1)).1.out;exact hk.elim q1 q2⟩
def mgP{As}{w}{pb id:Nat}{L:List In}{l:List Oper}{Q}{a}{g:List In->List Asn}(M:Sep As w)(i:Nat)(ab:List Nat)(k:∀W,Sep As W->aE prog l.toArray Q (fun W=>∃R,Sep (g R) W) ab a W)(h:As[i]? = some (.any (eH pb L)):=by rfl)(e:∀R,As.set i (.any (eH pb R))=g R:=by intro R;(try simp only[PS]);try rfl)(ac:jv l ab=true:=by kernel_rfl)(hQ:∀(i:Nat)(o),l.toArray[i]? = some o->∀c (a:Act) (v) (w),Q (.panic c) (a.put o.dst v) w->Q (.panic c) a w:=by(intro i o _ c a v w;generalize o.dst=d;cases d <;> exact fun h=>h)):(Code.region id l.toArray true).wp prog Q a w:=
 mg (g:=g) (h:=fun R=>As.set i (.any (eH pb R))) M ab k ⟨L,by obtain⟨hi,e⟩:=NQ.1 h;rw[<-e,List.set_getElem_self]⟩ e (by kernel_rfl) ac hQ
attribute [local simp] calcV
def GJ(s)(item plant:Int)(w)(hS:ap w s)(hU:bI s.units)(hB:∀r∈s.recs,bG s r=true)(hm:lM s)(hT:Tab w):Calls prog 41 #[.agg (srcC s).toArray,.int .i64 item,.int .i64 plant] w (yB w (codeR s item plant)):=by
 have bn:=mF;haveI:=Fct.mk hS;obtain⟨fo,ac⟩:=nm (codeR s item plant);rw[ac];replace ac:=MY ac;have ax:=hm.1;have M:=Sep.new w;go_enter func41,ntmps41;go_wp2_with(first|refine mz M fun M=>?_|(refine mI ?_)|refine mp M fun M=>?_|refine mv M fun M=>?_);replace M:=(M.pk [1,0,2,3]:Sep [_,_,_,_] _).prg0;go_loopw [18] (fun z W=>∃(k:Nat)(L:List In),k<=s.recs.length/\z=.int .i64 k/\Hid (codeFrom s item plant (s.recs.take k) 0=some L)/\Hid (L.length<=k*8192)/\M.p0 L W) (fun z _=>s.recs.length-(intOf z).toNat)
 case atStart=>exact⟨0,[],Nu _,rfl,rfl,Nu _,M⟩
 obtain⟨k,L,hk,rfl,HM,ag,M⟩:=hrel;simp only[Sep.p0]at M;by_cases bg:k<s.recs.length
 case neg=>
  obtain rfl:k=s.recs.length:=by omega
  rw[OK]at HM
  cases L with
  |nil=>
   have hf:fo=some []:=by rw[<-ac.out];unfold codeR;rw[HM.out]
   subst hf
   obtain⟨v,M⟩:=M.opn
   obtain⟨A,c,rfl⟩:∃A c,v=.slice A 0 c:=(M.own (i:=1) ⟨rfl⟩).slice
   go_wp2_with(first|refine mz M fun M=>?_|(refine mI ?_)|refine mp M fun M=>?_|refine mv M fun M=>?_)
   refine mr M ?_
   exact⟨M.bel,_,rfl,M.own1⟩
  |cons x L=>
   have hf:Hid (fo=some (x::L++[opI 8 0 0])):=by show _=_;rw[<-ac.out];unfold codeR;rw[HM.out]
   obtain⟨nl,ad⟩:=nm (x::L).length
   have av:=ag.out
   have bi:(0:Int)<(nl:Int):=by rw[<-ad];simp only[M6];omega
   have bk:nl<=1048576:=by rw[<-ad];have:=Nd 8192 ax;omega
   haveI:Fct ((x::L).length<16777216):=⟨by rw[ad];omega⟩
   obtain⟨v,hb,ho⟩:=M.prg 0
   obtain⟨A,c,rfl⟩:=ho.slice
   have q0:=(hb.at 0 _ rfl).1
   rw[N6,ad]at q0
   clear hb ho ad av ag HM ac
   go_upto_region 14 with(first|refine mz M fun M=>?_|(refine mI ?_)|refine mp M fun M=>?_|refine mv M fun M=>?_)
   obtain⟨v,M⟩:=Sep.opn (M.dr 1)
   obtain⟨A,m',c,rfl⟩:=M.rs 1
   clear q0
   go_wp2_with(first|refine mz M fun M=>?_|(refine mI ?_)|refine mp M fun M=>?_|refine mv M fun M=>?_)
   refine mr M ?_
   rw[hf.out]
   exact⟨M.bel,_,rfl,M.own1⟩
 obtain⟨r,hr⟩:=gx (l:=s.recs) (i:=k) bg;have aA:=Oc hr;have bb:=hS.recv r aA;haveI:=Fct.mk (io bb);have HR:=MY hr;have bl:Hid (¬(r.itemNo=item/\r.plantNo=plant)->codeFrom s item plant (s.recs.take (k+1)) 0=some L/\L.length<=(k+1)*8192):=fun bh=>⟨by
  rw[Ox,HR.out,Option.toList,tj,if_neg bh];exact HM.out,Nv ag.out (Nd _ (Nat.le_succ k))⟩
 cases h1:r.itemNo != item
 case' false=>cases h2:r.plantNo != plant
 case' false.false=>
  have al:r.itemNo=item:=by simpa using h1
  have an:r.plantNo=plant:=by simpa using h2
  replace al:=MY al;replace an:=MY an;go_wp2_with(first|refine mz M fun M=>?_|(refine mI ?_)|refine mp M fun M=>?_|refine mv M fun M=>?_);refine(GI s k r _ (hS.below M.bel) hU hr (hB r aA) (hT.below M.bel)).mono ?_;rintro e w5 ⟨ao,h5⟩
  cases ab:bodyR s k r with
  |none=>
   rw[ab]at h5
   simp only at h5
   subst h5
   have hf:fo=none:=by
    rw[<-ac.out];unfold codeR;rw[yD hr ⟨al.out,an.out⟩ (by rw[Nm];exact ab)]
   subst hf
   replace M:=M.ext ao
   clear ao ab
   go_wp2_with(first|refine mz M fun M=>?_|(refine mI ?_)|refine mp M fun M=>?_|refine mv M fun M=>?_)
   exact mr M ⟨M.bel,rfl⟩
  |some c=>
  rw[ab]at h5;simp only at h5;obtain⟨v2,rfl,o2⟩:=h5;replace M:=M.rowN ao o2;have ar:=tB ab;have bm:=hm.2 r aA;have av:=ag.out;have ba:(ct r).length=2+r.ifs.length:=by simp[ct];omega
  have be:Hid (codeFrom s item plant (s.recs.take (k+1)) 0=some (L++cy (ct r) c)):=by
   show _=_;rw[Ox,HR.out,Option.toList,tj,if_pos ⟨al.out,an.out⟩,HM.out];simp only[Nz,Nm];rw[Nat.min_eq_left (by omega),ab]
  have bd:Hid ((L++cy (ct r) c).length<=(k+1)*8192):=by
   show _<=_;rw[Oe,i8,ba,ar,Nat.succ_mul];omega
  haveI:Fct (L.length+(2*(ct r).length+c.length)<=16777216):=⟨by
   rw[ba,ar];have:=Nd 8192 (show k<=64 by omega);omega⟩
  obtain⟨A2,m2,c2,rfl⟩:=M.rs 0;haveI:Fct (c.length=m2):=⟨by obtain⟨_,_,e⟩:=o2.slice;have:=(Value.slice.inj e).2.1;rw[N6]at this;exact this.symm⟩
  clear ao o2 ab ar bm av ba;go_wp2_with(first|refine mz M fun M=>?_|(refine mI ?_)|refine mp M fun M=>?_|refine mv M fun M=>?_);refine mgP M 3 [0,1,3,4,5,1002,1006] fun _ M=>?_;repeat(first|refine sz M fun M=>?_|refine sj M fun M=>?_|refine sv M fun M=>?_|refine sp M fun M=>?_|refine sQ ?_)
  refine az fun K hK=>?_;go_simp;refine(GH r _ (bb.below M.bel)).mono ?_;rintro e w7 ⟨bc,tv,rfl,o7⟩;replace M:=M.rowN bc o7;clear bc o7;go_wp2_with fail;refine hK.out _ _ ⟨_,M.dr 1⟩ fun _=>?_;clear hK K;try simp only[PT]
  repeat(first|refine sz M fun M=>?_|refine sj M fun M=>?_|refine sv M fun M=>?_|refine sp M fun M=>?_|refine sQ ?_)
  refine aj ?_;go_wp2_with(first|refine mz M fun M=>?_|(refine mI ?_)|refine mp M fun M=>?_|refine mv M fun M=>?_);go_roundw
  case rel=>exact⟨k+1,_,by omega,by go_num,be.out,bd.out,M.dr 4⟩
  case measure=>simp[intOf];omega
 all_goals
  have hn:=MY (bl.out (by rintro⟨e1,e2⟩;first|(simp[e1]at h1;done)|(simp[e2]at h2)))
  go_wp2_with(first|refine mz M fun M=>?_|(refine mI ?_)|refine mp M fun M=>?_|refine mv M fun M=>?_)
  go_roundw
  case rel=>exact⟨k+1,L,by omega,by go_num,hn.1,hn.2,M.dr 1⟩
  case measure=>simp[intOf];omega
end
section
variable {P:Program} {As:List Asn} {w w0 W:World} {ops:Array Oper} {rest:List Oper} {Q:Exit->Act->World->Prop} {oper:Oper} {a:Act} {x y:Operand} {t e T:TypeId} {v u:Value} {k i b:Nat} {L:List (List Value)} {c:List Value} {α:Type} {l:List α} {f:α->List Value}
def Sep.g(M:Sep As W)(i:Nat)(h:As[i]? = some (.box b c T):=by rfl):Hid (∀V,eB W V->V.rangeAt b 0 c):=
 let B:=M.blk (i:=i) ⟨h⟩
 fun _ hV=>ai (B.below hV B.lt)
def Sep.gx(M:Sep As W)(i o:Nat)(h:As[i]? = some (.box b c T):=by rfl):Hid (∀V,eB W V->V.rangeAt b o (c.drop o)):=
 fun V hV j v hv=>by
  rw[List.getElem?_drop]at hv;have:=M.g i h V hV (o+j) v hv;rwa[Nm]at this
def mN{a':Option Addr->Nat->Nat->Act}{Bs:Option Addr->Nat->Nat->List Asn}(M:Sep As w)(h:∀f m d W,Sep (Bs f m d) W->wpList P ops Q rest (a' f m d) W)(ho:oper.op=.call {callee:= .builtin .append,args:=#[x,y],argTypes:=#[t,t]}:=by rfl)(hT:P.underlying t=some (.slice e):=by rfl)(hx:evo a x=some v:=by rfl)(hR:cH As v e k L i:=by infer_instance)(hy:evo a y=some u:=by rfl)(hO:Old As w0:=by infer_instance)(hF:ah w0 u α k l f:=by infer_instance)(hl:∀z,(f z).length=k/\((f z).all fun u=>u.oneCell')=true:=by exact fun _=>⟨rfl,rfl⟩)(hL:L.length+l.length<=16777216:=by(simp;omega))(hA:ia P t e k=true:=by kernel_rfl)(hw:Region.wanted oper (yielded ops a.tmps)=true:=by rfl)(hu:∀g m d,As.set i (.row (.slice g m d) e k (L++l.map f))=Bs g m d:=by intro _ _ _;(try simp only[PS]);try rfl)(e':∀g m d,a.put oper.dst (.slice g m d)=a' g m d:=by intro _ _ _;(try simp only[PT]);try rfl):wpList P ops Q (oper::rest) a w:=by
 have _:=hT;obtain⟨bytes,i0,z,ht,hi,hz,ab,al,an,hk,ac⟩:=sC hA;obtain⟨A,c,rfl⟩:=hF.sl;have ad:∀y∈l.map f,y.length=k:=fun y hy=>by obtain⟨z,_,rfl⟩:=List.mem_map.1 hy;exact(hl z).1
 have ag:(L.length+l.length)*bytes<=140737488355328:=Nv (Nat.mul_le_mul hL ac) (by omega);simp only[wpList];rw[if_pos hw];refine Or.inl (jY w x y t ho 0 e i0 z k bytes ht hi hz ab al an hk v L.length L.flatten (bU hx) (M.own hR).1 w.heap.size A l.length c (l.map f).flatten (bU hy) ((hF.1.below M.bel).reads ad hk) (fun u hu=>?_) (by unfold maxLen;omega) ag (Nu _) fun u W h2 h3 h4=>?_)
 ·obtain⟨y,hy,hu⟩:=List.mem_flatten.1 hu;obtain⟨z,_,rfl⟩:=List.mem_map.1 hy;exact Od.1 (hl z).2 u hu
 ·have hO:aa W 0 e k u (L++l.map f):=⟨by rw[Oe,List.flatten_append,N6];exact h2,fun c hc=>by
   rcases Of.1 hc with hc|hc
   ·exact(M.own hR).2 c hc
   ·exact ad c hc⟩
  obtain⟨g,d,rfl⟩:=hO.slice;rw[e'];exact h _ _ _ W (hu _ _ _▸M.grow hR hO h3 h4)
end
section
def Hn{k n d:Nat}(hk:0<k):lowR false (k*n) (k*d)=lowR false n d:=by
 unfold lowR;rw[Nat.gcd_mul_left,Nat.mul_div_mul_left _ _ hk,Nat.mul_div_mul_left _ _ hk];simp
def yN{n d:Nat}(h:n<d)(hd:d<=1048576):subR aq (lowR false n d)=some (lowR false (d-n) d):=by
 have ab:=fE;have hg:0<Nat.gcd n d:=Nat.gcd_pos_of_pos_right _ (by omega);have el:lowR false n d=⟨false,n/Nat.gcd n d,d/Nat.gcd n d⟩:=by simp[lowR]
 obtain⟨a,ha⟩:=Nat.gcd_dvd_left n d;obtain⟨b,hb⟩:=Nat.gcd_dvd_right n d;generalize Nat.gcd n d=g at *;have ac:a<b:=by
  apply Nat.lt_of_mul_lt_mul_left (a:=g);omega
 have ad:b<=d:=by rw[hb];exact Nat.le_mul_of_pos_left b hg
 have e1:n/g=a:=by rw[ha];exact Nat.mul_div_cancel_left a hg
 have e2:d/g=b:=by rw[hb];exact Nat.mul_div_cancel_left b hg
 have e3:lowR false (d-n) d=lowR false (b-a) b:=by
  have:d-n=g*(b-a):=by rw[Nat.mul_sub,<-ha,<-hb]
  rw[this];conv=>lhs;rw[hb]
  exact Hn hg
 rw[e3,el,e1,e2];unfold subR plusN aq;simp only[Nat.one_mul,Ov];rw[if_pos ⟨by omega,by omega,by omega⟩];by_cases h0:a=0
 ·subst h0;have:iS false 0=false:=rfl;rw[this,if_pos rfl,if_pos (by omega)];simp[iR]
 ·have:iS false a=true:=by simp[iS,h0]
  rw[this,if_neg (by simp),if_neg (by omega)];rfl
attribute [local simp] calcV
def Ho(s)(r)(w)(hS:ap w s)(hR:aQ w r)(hU:bI s.units)(hO:im s r)(hT:Tab w):Calls prog 275 #[cS s,.agg (am r).toArray] w (Ret w (calcV (goodR s r))):=by
 show Calls _ _ #[.agg (srcC s).toArray,_] _ _;obtain⟨⟨a0,ad,ag⟩,n,d,hn,hd,ao,al⟩:=hO;have ab:=fE;have an:(d:Int)-(n:Int)=((d-n:Nat):Int):=by omega
 have ac:goodR s r=(amtR s a0).bind fun x=>mulR x (lowR false (d-n) d):=by
  unfold goodR;rw[ad,hn,hd,an];simp only[NI];cases amtR s a0 <;> rfl
 haveI:=Fct.mk hS;haveI:=Fct.mk hR;haveI:=Fct.mk hT;haveI:=Fct.mk hU;haveI:=Fct.mk ag;haveI h1:∀As [Old As w],Con prog 33 #[.int .i64 1,.int .i64 1] As (.tuple #[.agg (rtC aq).toArray,.int .i64 0]) As:=fun As _=> .ret fun W M=>by
  have:=ej 1 1 W (by omega) (by omega) (by omega) (hT.below M.bel);rwa[show lowR false 1 1=aq by simp[lowR,aq]]at this
 haveI h2:∀As [Old As w],Con prog 33 #[.int .i64 r.reworkN,.int .i64 r.reworkD] As (.tuple #[.agg (rtC (lowR false n d)).toArray,.int .i64 0]) As:=fun As _=> .ret fun W M=>by
  rw[hn,hd];exact ej n d W (by omega) (by omega) (by omega) (hT.below M.bel)
 haveI:Fct aq.ok:=⟨by simpa[lowR,aq]using dq (neg:=false) (n:=1) (d:=1)⟩
 haveI:Fct (lowR false n d).ok:=⟨dq (by omega) (by omega) (by omega)⟩
 haveI:Fct (lowR false (d-n) d).ok:=⟨dq (by omega) (by omega) (by omega)⟩
 have ar:=yN ao al;have hz:Hid ((0:Int)<=0/\r.outs[(0:Int).toNat]? = some a0):=⟨by omega,ad⟩
 have M:=Sep.new w;rw[ac];generalize lowR false (d-n) d=rr at *;replace hn:=MY hn;replace hd:=MY hd;clear ac an ao al ab
 cases hg:amtR s a0
 case' some x=>
  haveI:=Fct.mk (gJ hU ag hg).1
  cases hm:mulR x rr
 all_goals
  go_enter func275,ntmps275
  go_wp2_with refine mz M fun M=>?_
  refine mf M 9 6 [0,1,2,3,4,1005,6,7,8] [1010,11] fun _ M=>?_
  repeat(first|refine fq fun _=>?_|refine fi fun _ _ _ _=>?_|refine fc M fun _ M _=>?_|refine fe M fun _ _ M=>?_|refine fQ fun _=>?_|refine fz M fun _ M=>?_|refine sz M fun M=>?_|refine sj M fun M=>?_|refine sv M fun M=>?_|refine sp M fun M=>?_|refine sQ ?_)
  try refine aj ?_
  go_wp2_with refine mz M fun M=>?_
  refine mr M ⟨?_,M.bel⟩
  simp[*]
  try rfl
end
section
def qw{s:SrcR}{r}{g}(hU:bI s.units)(hO:im s r)(h:goodR s r=some g):g.ok/\g.n≠0:=by
 obtain⟨⟨a0,ab,ac⟩,n,d,hn,hd,an,al⟩:=hO;have ag:=fE;have ad:(d:Int)-(n:Int)=((d-n:Nat):Int):=by omega
 unfold goodR at h;rw[ab,hn,hd,ad]at h;simp only[NI]at h
 cases hx:amtR s a0 with
 |none=>rw[hx]at h;cases h
 |some x=>
  rw[hx]at h
  obtain⟨g1,_,g3⟩:=gJ hU ac hx
  have g4:=dq (neg:=false) (n:=d-n) (d:=d)
  exact⟨fB h g1.2.2.1 g4.2.2.1,nt h g3 (pM (by omega) (by omega)) g1.2.2.1 g4.2.2.1⟩
def Hp{s}{r:RecR}{j:Int}{k:Nat}{a:aw}{y}(h:r.ins[k]? = some a)(ab:a.itemNo≠j):cK s r j (r.ins.drop k) y=cK s r j (r.ins.drop (k+1)) y:=by
 rw[List.drop_eq_getElem?_toList_append,h];simp[cK,ab]
def Hq{s}{r:RecR}{j:Int}{k:Nat}{a:aw}{y}(h:r.ins[k]? = some a)(he:a.itemNo=j):cK s r j (r.ins.drop k) y=match goodR s r with
 |none=>none
 |some g=>match amtR s a with
  |none=>none
  |some n=>match divR n g with
   |none=>none
   |some q=>match addR y q with
    |none=>none
    |some z=>cK s r j (r.ins.drop (k+1)) z:=by
 rw[List.drop_eq_getElem?_toList_append,h]
 show cK s r j (a::r.ins.drop (k+1)) y=_
 generalize r.ins.drop (k+1)=L
 rw[cK,if_neg (by simp[he])]
 cases goodR s r with
 |none=>rfl
 |some g=>
  cases amtR s a with
  |none=>rfl
  |some n=>
   simp only
   cases divR n g with
   |none=>rfl
   |some q=>
    simp only
    cases addR y q <;> rfl
instance{s:SrcR}{r:RecR}{As:List Asn}{w0:World}[Old As w0][hT:Fct (Tab w0)][hS:Fct (ap w0 s)][hR:Fct (aQ w0 r)][hU:Fct (bI s.units)][hO:Fct (im s r)]:Con prog 275 #[.agg (srcC s).toArray,.agg (am r).toArray] As (calcV (goodR s r)) As:= .ret fun W M=>Ho s r W (hS.1.below M.bel) (hR.1.below M.bel) hU.out hO.out (hT.1.below M.bel)
attribute [local simp] calcV
def Hr(s)(r)(item:Int)(x:Rt)(w)(hS:ap w s)(hR:aQ w r)(hU:bI s.units)(hO:im s r)(hA:∀a∈r.ins,bM s a=true)(hx:x.ok)(hT:Tab w):Calls prog 253 #[.agg (srcC s).toArray,.agg (am r).toArray,.int .i64 item,bA x] w (Ret w (calcV (cK s r item r.ins x))):=by
 have ab:=hR.inl;unfold BIG at ab;obtain⟨m,hm⟩:=nm r.ins.length;rw[hm]at ab;haveI:=Fct.mk hS;haveI:=Fct.mk hR;haveI:=Fct.mk hU;haveI:=Fct.mk hO;haveI:=Fct.mk hT;have M:=Sep.new w;unfold bA;go_enter func253,ntmps253;go_wp2_with refine mz M fun M=>?_;go_loopw [18] (fun z W=>∃(k:Nat)(y:Rt),k<=m/\z=.int .i64 k/\M.w1 1 (rtC y) W/\Hid (y.ok/\cK s r item r.ins x=cK s r item (r.ins.drop k) y)) (fun z _=>m-(intOf z).toNat)
 case atStart=>exact⟨0,x,Nu _,rfl,M,hx,rfl⟩
 obtain⟨k,y,hk,rfl,M,hy⟩:=hrel;simp only[Sep.w1,upC]at M;by_cases ag:k<m
 case neg=>
  obtain rfl:m=k:=by omega
  go_wp2_with refine mz M fun M=>?_;refine mr M ⟨?_,M.bel⟩;rw[hy.2,List.drop_eq_nil_of_le (by omega)];rfl
 obtain⟨a,ha⟩:=gx (l:=r.ins) (i:=k);by_cases hit:a.itemNo=item
 case neg=>
  have g1:(a.itemNo==item)=false:=by simpa using hit
  go_wp2_with refine mz M fun M=>?_;go_roundw
  case rel=>exact⟨k+1,y,by omega,by go_num,M.dr 1,hy.1,by rw[hy.2,Hp ha hit]⟩
  case measure=>simp[intOf];omega
 have g1:(a.itemNo==item)=true:=by simpa using hit
 have HS:=hy.2.trans (Hq ha hit);haveI:=Fct.mk hy.1;have ad:=Fct.mk (hA a (Oc ha))
 cases hg:goodR s r
 case' some g=>
  obtain⟨g1,g2⟩:=qw hU hO hg;haveI:=Fct.mk g1;haveI:=Fct.mk g2
  cases hn:amtR s a
  case' some n=>
   have ac:=Fct.mk (gJ hU ad.out hn).1
   cases hq:divR n g
   case' some q=>
    haveI:=Fct.mk (ny hq ac.out g1 g2)
    cases hz:addR y q
 all_goals simp only[hg, *]at HS
 all_goals
  have HS:=MY HS
  go_wp2_with refine mz M fun M=>?_
  first|(refine mr M ⟨?_,M.bel⟩;rw[HS.out];rfl)|skip
 go_roundw
 case rel=>exact⟨k+1,_,by omega,by go_num,M.dr 3,pw hz hy.1 (ny hq ac.out g1 g2),HS.out⟩
 case measure=>simp[intOf];omega
end
def yR{w:World}{g cap k:Nat}{T}{B:Nat}{cs}(hB:B<=g)(hg:w.heap[g]? = some (.cells cs T (0,0)))(hc:cap<=maxLen)(hs:cs.size=cap*k):aa w B T k (.slice g 0 cap) []:=
 ⟨⟨by simp,.inr ⟨g,cap,cs,rfl,hB,hg,Nu _,hc,hs,by simp⟩⟩,by simp⟩
def yS(z)(n:Nat):(Builtin.zeroCells z n).size=n*z.size:=by simp[Builtin.zeroCells]
def yT(w:World)(T:TypeId)(k:Nat)(e:Ending)(w':World):Prop:=eB w w'/\∃v,e=.returned v/\aa w' w.heap.size T k v []
structure nV(w:World)(k:Nat)(v:Value)(Ls:List (Value×List (List Value))):Prop where
 top:RowC w 1 v (Ls.map fun x=>[x.1])
 rows:∀x∈Ls,RowC w k x.1 x.2
 len:∀x∈Ls,∀y∈x.2,y.length=k
 one:∀x∈Ls,∀y∈x.2,∀u∈y,u.oneCell'=true
 small:∀x∈Ls,x.2.length<=1024
 few:Ls.length<=1024
def nV.below{w W}{k:Nat}{v}{Ls:List (Value×List (List Value))}(h:nV w k v Ls)(hb:eB w W):nV W k v Ls:=
 ⟨h.top.below hb,fun x hx=>(h.rows x hx).below hb,h.len,h.one,h.small,h.few⟩
def tH(w:World)(T:TypeId)(k:Nat)(L:List (List Value))(e:Ending)(w':World):Prop:=eB w w'/\∃v,e=.returned v/\aa w' w.heap.size T k v L
def tI{α β:Type}{L:List α}{f:α->List β}{k:Nat}{x:α}(h:L[k]? = some x):(L.take (k+1)).flatMap f=(L.take k).flatMap f++f x:=by
 rw[List.take_succ,h];simp
def qy{α:Type}{f:α->Nat}(L:List α)(k:Nat)(h:∀x∈L,f x<=1024):((L.take k).map f).sum<=k*1024:=by
 induction L generalizing k with
 |nil=>simp
 |cons a L ih=>
  cases k with
  |zero=>simp
  |succ k=>
   simp only[Ol,NP,List.sum_cons]
   have:=ih k (fun x hx=>h x (by simp[hx]))
   have:=h a (by simp)
   omega
def yU{α:Type}{f:α->Nat}{L:List α}{k:Nat}{x:α}(h:L[k]? = some x):((L.take (k+1)).map f).sum=((L.take k).map f).sum+f x:=by
 rw[List.take_succ,h];simp
def yV{α β:Type}(L:List α)(f:α->List β):(L.flatMap f).length=(L.map fun x=>(f x).length).sum:=by
 rw[List.length_flatMap]
def tJ:bE prog 241 37 3 40:=bE.mk' (z:= .agg #[.bool false,.string ⟨#[]⟩,.string ⟨#[]⟩]) underlying241 (by kernel_rfl) (by decide)
def qz:bE prog 320 241 1 24:=bE.mk' (z:= .slice none 0 0) underlying320 (by kernel_rfl) (by decide)
def yW{P}{t e}{k bytes:Nat}(hI:bE P t e k bytes)(hit:P.underlying 3=some (.int .i64))(n:Nat)(h0:0<n)(hn:n<=1048576)(ty)(w) :∃(cap:Nat)(cs:Array Value),cap<=maxLen/\cs.size=cap*k/\(Builtin.append_ #[t,3] ty #[.slice none 0 0,.int .i64 n]).run P w=.ok (.slice w.heap.size n cap) (w.drew.alloc (.cells cs e)):=by
 obtain⟨i,z,ht,hi,hz,ac,ad,ag,hk,ab⟩:=hI;refine⟨grownCap w n 0 e,_,grownCap_le_maxLen w n 0 e (by unfold maxLen;omega),?_,Lib.run_append_nil_zeros w t 3 ty e i z .i64 .i64 ht hit hi hz n h0 (by omega) (by omega) (by rw[ad];exact Nv (Nat.mul_le_mul hn ab) (by omega))⟩;have:=grownCap_ge w n 0 e;rw[Array.size_append,yS,yS,ag,<-Nat.add_mul];congr 1;omega
def Hx(n:Nat)(hn:n<=1048576)(w):Calls prog 333 #[.slice none 0 0,.int .i64 (n:Int)] w (yT w 37 3):=by
 go_enter func333,ntmps333;by_cases h0:n=0
 ·subst h0;go_wp2;go_ret;exact⟨NB _ _,_,rfl,aa.none_ _ _ _ _⟩
 ·have hp:(0:Int)<(n:Int):=by omega
  have an:¬(n:Int)<0:=by omega
  have ao:(n:Int)<=1048576:=by omega
  have al:(0:Int)<=(n:Int):=by omega
  obtain⟨cap,cs,hc,ad,ac⟩:=yW tJ underlying3 n (by omega) hn 241 w;have HC:=MY (And.intro hc ad);have ab:=MY ac;have ag:w.drew.heap.size=w.heap.size:=rfl;go_wp2_with (at_builtin;refine Lib.wpList_append_run _ rfl (.tmp 20) (.tmp 21) _ _ rfl _ _ rfl rfl _ _ ab.out ?_);go_ret;exact⟨(NB _ w).drew.alloc (No _) _,_,rfl,yR (No _) (N8 w.drew _) HC.1 HC.2⟩
def Hy(v)(Ls:List (Value×List (List Value)))(w)(hL:nV w 3 v Ls):Calls prog 322 #[v] w (tH w 37 3 (Ls.flatMap (·.2))):=by
 obtain⟨A,c,ev,bd,H⟩:=hL.top;rw[N6]at ev bd;obtain⟨m,hm⟩:=nm Ls.length;have HM:=MY hm;rw[hm]at ev bd;have ca:m<=1024:=by rw[<-hm];exact hL.few
 have HH:=MY H;have HL:=MY hL;obtain⟨sm,ar⟩:∃f:Nat->Nat,f=fun k=>((Ls.take k).map fun x=>x.2.length).sum:=⟨_,rfl⟩
 have ax:=MY ar;have ag:Hid (∀k,sm k<=k*1024):=fun k=>by rw[ar];exact qy Ls k hL.small
 have bl:=MY (fun n hn=>Hx n hn w);clear hm H hL ar;subst ev;go_enter func322,ntmps322;go_wp2_with fail;go_loopw [3,11] (fun y z W=>∃k:Nat,k<=m/\z=.int .i64 k/\y=.int .i64 ((sm k:Nat):Int)/\w=W) (fun _ z _=>m-(intOf z).toNat)
 case atStart=>exact⟨0,Nu _,rfl,by rw[ax.out];rfl,by first|rfl|trivial⟩
 case round=>
  obtain⟨k,hk,rfl,rfl,rfl⟩:=hrel;by_cases bs:k<m
  case neg=>
   obtain rfl:m=k:=by omega
   have ao:sm m<=1048576:=by have:=ag.out m;omega
   go_wp2_with fail;refine(bl.out (sm m) ao).mono ?_;rintro e w1 ⟨ba,v1,rfl,bg⟩;have B1:=MY ba;have O1:=MY bg;clear ba bg;go_wp2_with fail;go_loopw [6,27] (fun y z W=>∃k:Nat,k<=m/\z=.int .i64 k/\Hid (aa W w.heap.size 37 3 y ((Ls.take k).flatMap (·.2)))/\Hid (eB w W)) (fun _ z _=>m-(intOf z).toNat)
   case atStart=>exact⟨0,Nu _,rfl,by show aa _ _ _ _ _ _;simpa using O1.out,B1.out⟩
   case round=>
    clear B1 O1;obtain⟨k,hk,rfl,O,B⟩:=hrel;by_cases bs:k<m
    case neg=>
     obtain rfl:m=k:=by omega
     go_wp2;go_ret;have:=O.out;rw[Ny (by have:=HM.out;omega)]at this;exact⟨B.out,_,rfl,this⟩
    obtain⟨x,hx⟩:=gx (l:=Ls) (i:=k) (by have:=HM.out;omega);obtain⟨bb,off,rfl,bc,hc⟩:=HH.out k [x.1] (by rw[Ou,hx];rfl);have q0:=(B.cell (p:=⟨bb,_,none⟩) bc).trans (hc 0 _ rfl);simp only[Ov,Na]at q0;have ab:=Oc hx;have HR:=(HL.rows x ab).below B.out;obtain⟨A2,c2,e2,hc2,_⟩:=(HL.rows x ab)
    rw[e2]at HR q0;have av:=MY HR;have HX:=MY hx;have aA:=MY ab;obtain⟨bp,br⟩:=ix (k:=k) (n:=m);obtain⟨A1,c1,rfl⟩:=O.slice;have ad:Hid (((Ls.take k).flatMap (·.2)).length+x.2.length<=16777216):=by
     show _<=_;rw[yV];have h1:=qy Ls k HL.small;have h2:=HL.small x ab;have h3:k*1024<=1048576:=by omega
     omega
    obtain⟨lx,al⟩:=nm (((Ls.take k).flatMap (·.2)).length);obtain⟨ly,ac⟩:=nm x.2.length;have bw:=MY al;rw[ac]at av q0;have bm:Hid (∀v' W',aa W' w.heap.size 37 3 v' ((Ls.take k).flatMap (·.2)++x.2)->aa W' w.heap.size 37 3 v' ((Ls.take (k+1)).flatMap (·.2))):=fun v' W' h=>by rw[tI HX.out];exact h
    have OO:=O;rw[al]at OO⊢;clear hx hc e2 ab HR al ac;go_wp2_with (at_builtin;(refine ku tJ rfl (.tmp 31) (.tmp 32) rfl w.heap.size (.slice A1 lx c1) ((Ls.take k).flatMap (·.2)) rfl OO.out A2 ly c2 x.2 rfl av.out (HL.len x aA.out) (HL.one x aA.out) ad.out B.size ?_;intro v5 w5 bh be an;have bn:=MY (bm.out v5 w5 bh);have bk:=MY (j8 B.out OO.out be (No _) B.size);clear bh be an));go_roundw
    case rel=>exact⟨k+1,by omega,by go_num,bn.out,bk.out⟩
    case measure=>simp[intOf];omega
  obtain⟨x,hx⟩:=gx (l:=Ls) (i:=k) (by have:=HM.out;omega);obtain⟨bb,off,rfl,bc,hc⟩:=HH.out k [x.1] (by rw[Ou,hx];rfl);have q0:=hc 0 _ rfl;simp only[Ov,Na]at q0;have ab:=Oc hx;obtain⟨A2,c2,e2,hc2,_⟩:=(HL.rows x ab)
  rw[e2]at q0;have ao:sm k<=1048576:=by have:=ag.out k;omega
  have bv:sm (k+1)<=1048576:=by have:=ag.out (k+1);omega
  obtain⟨ly,ac⟩:=nm x.2.length;rw[ac]at q0;have bi:(sm (k+1):Int)=(sm k:Int)+(ly:Int):=by
   have:sm (k+1)=sm k+ly:=by rw[ax.out,<-ac];exact yU hx
   omega
  have bo:=MY bi;have bu:(sm k:Int)+(ly:Int)<=1048576:=by omega
  have bt:¬(sm k:Int)+(ly:Int)<0:=by omega
  have bx:(0:Int)<=(sm k:Int)+(ly:Int):=by omega
  obtain⟨bp,br⟩:=ix (k:=k) (n:=m);clear ao bv bi ac ab hx hc e2;go_wp2;go_roundw
  case rel=>exact⟨k+1,by omega,by go_num,by rw[bo.out],by first|rfl|trivial⟩
  case measure=>simp[intOf];omega
def Hz(n:Nat)(hn:n<=1048576)(w):Calls prog 335 #[.slice none 0 0,.int .i64 (n:Int)] w (yT w 241 1):=by
 go_enter func335,ntmps335;by_cases h0:n=0
 ·subst h0;go_wp2;go_ret;exact⟨NB _ _,_,rfl,aa.none_ _ _ _ _⟩
 ·have hp:(0:Int)<(n:Int):=by omega
  have an:¬(n:Int)<0:=by omega
  have ao:(n:Int)<=1048576:=by omega
  have al:(0:Int)<=(n:Int):=by omega
  obtain⟨cap,cs,hc,ad,ac⟩:=yW qz underlying3 n (by omega) hn 320 w;have HC:=MY (And.intro hc ad);have ab:=MY ac;have ag:w.drew.heap.size=w.heap.size:=rfl;go_wp2_with (at_builtin;refine Lib.wpList_append_run _ rfl (.tmp 20) (.tmp 21) _ _ rfl _ _ rfl rfl _ _ ab.out ?_);go_ret;exact⟨(NB _ w).drew.alloc (No _) _,_,rfl,yR (No _) (N8 w.drew _) HC.1 HC.2⟩
def H6(v)(Ls:List (Value×List (List Value)))(w)(hL:nV w 1 v Ls):Calls prog 332 #[v] w (tH w 241 1 (Ls.flatMap (·.2))):=by
 obtain⟨A,c,ev,bd,H⟩:=hL.top;rw[N6]at ev bd;obtain⟨m,hm⟩:=nm Ls.length;have HM:=MY hm;rw[hm]at ev bd;have ca:m<=1024:=by rw[<-hm];exact hL.few
 have HH:=MY H;have HL:=MY hL;obtain⟨sm,ar⟩:∃f:Nat->Nat,f=fun k=>((Ls.take k).map fun x=>x.2.length).sum:=⟨_,rfl⟩
 have ax:=MY ar;have ag:Hid (∀k,sm k<=k*1024):=fun k=>by rw[ar];exact qy Ls k hL.small
 have bl:=MY (fun n hn=>Hz n hn w);clear hm H hL ar;subst ev;go_enter func332,ntmps332;go_wp2_with fail;go_loopw [3,11] (fun y z W=>∃k:Nat,k<=m/\z=.int .i64 k/\y=.int .i64 ((sm k:Nat):Int)/\w=W) (fun _ z _=>m-(intOf z).toNat)
 case atStart=>exact⟨0,Nu _,rfl,by rw[ax.out];rfl,by first|rfl|trivial⟩
 case round=>
  obtain⟨k,hk,rfl,rfl,rfl⟩:=hrel;by_cases bs:k<m
  case neg=>
   obtain rfl:m=k:=by omega
   have ao:sm m<=1048576:=by have:=ag.out m;omega
   go_wp2_with fail;refine(bl.out (sm m) ao).mono ?_;rintro e w1 ⟨ba,v1,rfl,bg⟩;have B1:=MY ba;have O1:=MY bg;clear ba bg;go_wp2_with fail;go_loopw [6,27] (fun y z W=>∃k:Nat,k<=m/\z=.int .i64 k/\Hid (aa W w.heap.size 241 1 y ((Ls.take k).flatMap (·.2)))/\Hid (eB w W)) (fun _ z _=>m-(intOf z).toNat)
   case atStart=>exact⟨0,Nu _,rfl,by show aa _ _ _ _ _ _;simpa using O1.out,B1.out⟩
   case round=>
    clear B1 O1;obtain⟨k,hk,rfl,O,B⟩:=hrel;by_cases bs:k<m
    case neg=>
     obtain rfl:m=k:=by omega
     go_wp2;go_ret;have:=O.out;rw[Ny (by have:=HM.out;omega)]at this;exact⟨B.out,_,rfl,this⟩
    obtain⟨x,hx⟩:=gx (l:=Ls) (i:=k) (by have:=HM.out;omega);obtain⟨bb,off,rfl,bc,hc⟩:=HH.out k [x.1] (by rw[Ou,hx];rfl);have q0:=(B.cell (p:=⟨bb,_,none⟩) bc).trans (hc 0 _ rfl);simp only[Ov,Na]at q0;have ab:=Oc hx;have HR:=(HL.rows x ab).below B.out;obtain⟨A2,c2,e2,hc2,_⟩:=(HL.rows x ab)
    rw[e2]at HR q0;have av:=MY HR;have HX:=MY hx;have aA:=MY ab;obtain⟨bp,br⟩:=ix (k:=k) (n:=m);obtain⟨A1,c1,rfl⟩:=O.slice;have ad:Hid (((Ls.take k).flatMap (·.2)).length+x.2.length<=16777216):=by
     show _<=_;rw[yV];have h1:=qy Ls k HL.small;have h2:=HL.small x ab;have h3:k*1024<=1048576:=by omega
     omega
    obtain⟨lx,al⟩:=nm (((Ls.take k).flatMap (·.2)).length);obtain⟨ly,ac⟩:=nm x.2.length;have bw:=MY al;rw[ac]at av q0;have bm:Hid (∀v' W',aa W' w.heap.size 241 1 v' ((Ls.take k).flatMap (·.2)++x.2)->aa W' w.heap.size 241 1 v' ((Ls.take (k+1)).flatMap (·.2))):=fun v' W' h=>by rw[tI HX.out];exact h
    have OO:=O;rw[al]at OO⊢;clear hx hc e2 ab HR al ac;go_wp2_with (at_builtin;(refine ku qz rfl (.tmp 31) (.tmp 32) rfl w.heap.size (.slice A1 lx c1) ((Ls.take k).flatMap (·.2)) rfl OO.out A2 ly c2 x.2 rfl av.out (HL.len x aA.out) (HL.one x aA.out) ad.out B.size ?_;intro v5 w5 bh be an;have bn:=MY (bm.out v5 w5 bh);have bk:=MY (j8 B.out OO.out be (No _) B.size);clear bh be an));go_roundw
    case rel=>exact⟨k+1,by omega,by go_num,bn.out,bk.out⟩
    case measure=>simp[intOf];omega
  obtain⟨x,hx⟩:=gx (l:=Ls) (i:=k) (by have:=HM.out;omega);obtain⟨bb,off,rfl,bc,hc⟩:=HH.out k [x.1] (by rw[Ou,hx];rfl);have q0:=hc 0 _ rfl;simp only[Ov,Na]at q0;have ab:=Oc hx;obtain⟨A2,c2,e2,hc2,_⟩:=(HL.rows x ab)
  rw[e2]at q0;have ao:sm k<=1048576:=by have:=ag.out k;omega
  have bv:sm (k+1)<=1048576:=by have:=ag.out (k+1);omega
  obtain⟨ly,ac⟩:=nm x.2.length;rw[ac]at q0;have bi:(sm (k+1):Int)=(sm k:Int)+(ly:Int):=by
   have:sm (k+1)=sm k+ly:=by rw[ax.out,<-ac];exact yU hx
   omega
  have bo:=MY bi;have bu:(sm k:Int)+(ly:Int)<=1048576:=by omega
  have bt:¬(sm k:Int)+(ly:Int)<0:=by omega
  have bx:(0:Int)<=(sm k:Int)+(ly:Int):=by omega
  obtain⟨bp,br⟩:=ix (k:=k) (n:=m);clear ao bv bi ac ab hx hc e2;go_wp2;go_roundw
  case rel=>exact⟨k+1,by omega,by go_num,by rw[bo.out],by first|rfl|trivial⟩
  case measure=>simp[intOf];omega
def tK(n:Nat)(hn:n<=1048576)(w):∃l:List Value,l.length=n*3/\(Instr.makeSlice 241 (.int .i64 (n:Int)) (.int .i64 (n:Int))).run prog w=.ok (.slice w.heap.size n n) (w.alloc (.cells l.toArray 37)):=by
 obtain⟨i,z,ht,hi,hz,ab,ad,ag,hk,ac⟩:=tJ;refine⟨(madeCells z.cells (n*i.size)).toList,by rw[Array.length_toList,size_madeCells,ab],?_⟩;have:=run_make (P:=prog) w 241 37 i z ht hi hz .i64 .i64 n n (by omega) (Int.le_refl _) (by rw[ad];omega) (by omega);simpa using this
def ff(l:List Value)(o:Nat):List Value->List Value
 |[]=>l
 |v::vs=>ff (l.set o v) (o+1) vs
def tL:∀(vs:List Value)(l:List Value) (o:Nat),(ff l o vs).length=l.length
 |[],_,_=>rfl
 |v::vs,l,o=>by rw[ff,tL vs];simp
def tM:∀(vs:List Value)(l:List Value) (o q:Nat),q<o\/o+vs.length<=q->(ff l o vs)[q]? = l[q]?
 |[],_,_,_,_=>rfl
 |v::vs,l,o,q,h=>by
  simp only[M6]at h;rw[ff,tM vs _ _ _ (by omega),Oo (by omega)]
def tN:∀(vs:List Value)(l:List Value) (o j:Nat),j<vs.length->o+j<l.length->(ff l o vs)[o+j]? = vs[j]?
 |[],_,_,_,h,_=>by simp at h
 |v::vs,l,o,0,h,hl=>by
  rw[ff,tM vs _ _ _ (by omega),Na,On (by omega)];rfl
 |v::vs,l,o,j+1,h,hl=>by
  simp only[M6]at h;rw[ff,show o+(j+1)=o+1+j by omega,tN vs _ _ j (by omega) (by simp;omega)];rfl
def Blk.setCells{b:Nat}{T}:∀(vs:List Value)(o:Nat) (w:World) (l:List Value),Blk w b l T->Blk (w.setCells b o vs) b (ff l o vs) T
 |[],_,_,_,h=>h
 |v::vs,o,_,_,h=>Blk.setCells vs (o+1) _ _ (h.set o v)
def tO{B b:Nat}{w0}(hb:B<=b):∀(vs:List Value)(o:Nat) (w:World),Below B w0 w->Below B w0 (w.setCells b o vs)
 |[],_,_,h=>h
 |v::vs,o,_,h=>tO hb vs (o+1) _ (h.setCell (p:=⟨b,o,none⟩) hb v)
def yX{P:Program}(w:World)(dT sT ty e)(k:Nat)(hu:P.underlying dT=some (.slice e))(hs:(P.info? e).map (·.size)=some k)(g off ab ag:Nat)(ad:Addr)(ac an:Nat)(cs cur:List Value)(T)(hn:cs.length=Nat.min ac ab*k)(al:∀j v,cs[j]? = some v->w.cell? (ad.add j)=some v)(hg:Blk w g cur T)(ao:off+cs.length<=cur.length)(h1:∀v∈cs,v.oneCell'=true) :(Builtin.copy_ #[dT,sT] ty #[.slice (some ⟨g,off,none⟩) ab ag,.slice (some ad) ac an]).run P w=.ok (goInt (Nat.min ac ab)) (w.setCells g off cs):=by
 have hl:=run_loadCells_list (P:=P) w ad cs al;have ar:=run_storeCells_cells (P:=P) g off cs 0 w (fun j hj=>by rw[Na,(hg.at (off+j) _ (Nx (by omega))).1];rfl) (fun j hj=>by rw[Na];exact(hg.at (off+j) _ (Nx (by omega))).2) h1
 cases hq:P.info? e with
 |none=>simp[hq]at hs
 |some i=>
  have hi:i.size=k:=by simpa[hq]using hs
  simp[Builtin.copy_,run_underlying hu,Builtin.lenOf,Builtin.firstCells,sizeOf,typeInfo,hq,hi,<-hn,hl,ar]
def H7{P:Program}(w)(dT sT ty e)(k:Nat)(hu:P.underlying dT=some (.slice e))(hs:(P.info? e).map (·.size)=some k)(d a)(ab ad ac ag:Nat)(hn:Nat.min ac ab=0) :(Builtin.copy_ #[dT,sT] ty #[.slice d ab ad,.slice a ac ag]).run P w=.ok (goInt 0) w:=by
 cases hq:P.info? e with
 |none=>simp[hq]at hs
 |some i=>
  have hl:∀(x:Addr),(loadCells x 0).run P w=.ok #[] w:=fun x=>by simpa using run_loadCells_list (P:=P) w x [] (by simp)
  cases d <;> cases a <;> simp[Builtin.copy_,run_underlying hu,Builtin.lenOf,Builtin.firstCells,sizeOf,typeInfo,hq,hn,storeCells,hl]
def H8(x y:Nat)(hx:x<18446744073709551616)(hy:y<18446744073709551616)(w) :Calls prog 274 #[.int .u64 x,.int .u64 y] w fun e w'=>e=.returned (.tuple #[.int .u64 ((x*y/18446744073709551616:Nat):Int),.int .u64 ((x*y%18446744073709551616:Nat):Int)])/\w=w':=by
 have HM:=MY (vS x y hx hy w);go_enter func274,ntmps274;go_wp2_with fail;refine HM.mono ?_;rintro e w1 ⟨rfl,rfl⟩;go_wp2;go_ret2;exact⟨rfl,rfl⟩
def gN(c:List Value)(n k:Nat)(l:List Value):Prop:=l.length=n*3/\∀i j,i<k->j<3->l[i*3+j]? = c[j]?
def gN.all{c}{n:Nat}{l}(h:gN c n n l)(hc:c.length=3):l=(List.replicate n c).flatten:=by
 apply List.ext_getElem?;intro q;have hl:((List.replicate n c).flatten).length=n*3:=by rw[gK _ 3 (by intro x hx;rw[List.eq_of_mem_replicate hx];exact hc)];simp
 by_cases hq:q<n*3
 ·have h1:q/3<n:=by omega
  have h2:=h.2 (q/3) (q%3) h1 (Ni _ (by omega));have h3:=j7 (List.replicate n c) 3 (by intro x hx;rw[List.eq_of_mem_replicate hx];exact hc) (q/3) (q%3) c (by simp[h1]) (Ni _ (by omega));rw[Nat.div_add_mod']at h2 h3;rw[h2,h3]
 ·rw[OJ (by rw[h.1];omega),OJ (by omega)]
def gN.more{c}{n k m:Nat}{l}(h:gN c n k l)(hk:k+m<=n)(hm:m<=k):gN c n (k+m) (ff l (k*3) (l.take (m*3))):=by
 refine⟨by rw[tL];exact h.1,fun i j hi hj=>?_⟩;have ab:(l.take (m*3)).length=m*3:=by rw[Nz,h.1];omega
 by_cases ac:i<k
 ·rw[tM _ _ _ _ (by omega)];exact h.2 i j ac hj
 ·obtain⟨d,rfl⟩:∃d,i=k+d:=⟨i-k,by omega⟩
  have e:(k+d)*3+j=k*3+(d*3+j):=by omega
  rw[e,tN _ _ _ _ (by rw[ab];omega) (by rw[h.1];omega),List.getElem?_take_of_lt (by omega)];exact h.2 d j (by omega) hj
def gN.one{c:List Value}{n:Nat}{l:List Value}(hl:l.length=n*3)(hn:0<n)(hc:c.length=3):gN c n 1 (ff l 0 c):=by
 refine⟨by rw[tL];exact hl,fun i j hi hj=>?_⟩;obtain rfl:i=0:=by omega
 rw[Nat.zero_mul,tN _ _ _ _ (by omega) (by omega)]
def Ia(w:World)(n:Nat)(L:List (List Value))(e:Ending)(w':World):Prop:=eB w w'/\∃g,e=.returned (.slice (some ⟨g,0,none⟩) n n)/\w.heap.size<=g/\Blk w' g L.flatten 37
def yY(g c n:Nat)(x:Rt)(T)(w)(hb:Blk w g [.bool x.neg,.string (bs x.n),.string (bs x.d)] T)(hn:n<=1024):Calls prog 252 #[.slice g 1 c,.int .i64 (n:Int)] w (Ia w n (List.replicate n [.bool x.neg,.string (bs x.n),.string (bs x.d)])):=by
 have HM:Hid (Calls prog 274 #[.int .u64 1,.int .u64 (n:Int)] w fun e w'=>e=.returned (.tuple #[.int .u64 0,.int .u64 (n:Int)])/\w=w'):=by
  have:=H8 1 n (by omega) (by omega) w;rw[Nat.one_mul,Nj (by omega),Nk (by omega)]at this;exact this
 have HB:=MY hb;obtain⟨l0,ba,be⟩:=tK n (by omega) w;have al:=MY ba;have bm:¬(n:Int)<0:=by omega
 have bk:(0:Int)<=(n:Int):=by omega
 have bl:(n:Int)<=1024:=by omega
 obtain⟨N,hN⟩:=nm w.heap.size;have HN:=MY hN;obtain⟨cx,ao⟩:=nm [Value.bool x.neg,.string (bs x.n),.string (bs x.d)];have ab:Hid (cx.length=3/\∀v∈cx,v.oneCell'=true):=by rw[<-ao];exact⟨rfl,fun v hv=>by simp at hv;rcases hv with rfl|rfl|rfl <;> rfl⟩
 obtain⟨W1,ad⟩:=nm (w.alloc (.cells l0.toArray 37));have K1:=MY (Blk.new w l0 37);rw[ad,hN]at K1;have B1:Hid (Below N w W1):=by rw[<-ad,<-hN];exact ak w _
 rw[ao]at hb⊢;have av:Hid (Blk W1 g cx T):=by rw[<-ad];exact hb.alloc _
 have ar:(prog.info? 37).map (·.size)=some 3:=by kernel_rfl
 obtain⟨k0,l1,W2,aA,ax,K2,R2,B2⟩:∃(k0:Nat)(l1:List Value) (W2:World),(k0=0/\n=0\/k0=1/\1<=n)/\(∀ty,(Builtin.copy_ #[241,241] ty #[.slice (some ⟨N,0,none⟩) n n,.slice (some ⟨g,0,none⟩) 1 c]).run prog W1=.ok (.int .i64 (k0:Int)) W2)/\Hid (Blk W2 N l1 37)/\Hid (gN cx n k0 l1)/\Hid (Below N w W2):=by
  by_cases h0:n=0
  ·subst h0;exact⟨0,l0,W1,.inl ⟨rfl,rfl⟩,fun ty=>H7 W1 _ _ ty 37 3 underlying241 ar _ _ _ _ _ _ (by simp),K1.out,⟨al.out,fun i j h=>by omega⟩,B1.out⟩
  ·refine⟨1,ff l0 0 cx,W1.setCells N 0 cx,.inr ⟨rfl,by omega⟩,fun ty=>?_,Blk.setCells _ _ _ _ K1.out,gN.one al.out (by omega) ab.1,tO (No _) _ _ _ B1.out⟩;have hm:Nat.min 1 n=1:=Nat.min_eq_left (by omega);have:=yX W1 241 241 ty 37 3 underlying241 ar N 0 n n ⟨g,0,none⟩ 1 c cx l0 37 (by rw[hm,ab.1]) (fun j v hv=>by rw[Addr.add_lit];exact(av.at (0+j) v (by simpa using hv)).1) K1.out (by rw[ab.1,al.out];omega) ab.2;rw[hm]at this;exact this
 have ag:Hid (k0<=n/\(1<=n->1<=k0)):=by rcases aA with⟨rfl,rfl⟩|⟨rfl,h⟩ <;> exact⟨by omega,fun h=>by omega⟩
 clear hb ba ao B1 K1 av aA;go_enter func252,ntmps252;go_wp2_with fail;refine HM.mono ?_;rintro e w1 ⟨rfl,rfl⟩;clear HM;go_wp2_with fail;clear ax be ad;go_loopw [8] (fun z W=>∃(k:Nat)(l:List Value),z=.int .i64 k/\k<=n/\Hid (1<=n->1<=k)/\Hid (Blk W N l 37)/\Hid (gN cx n k l)/\Hid (Below N w W)) (fun z _=>n-(intOf z).toNat)
 case atStart=>exact⟨k0,l1,rfl,ag.1,ag.2,K2.out,R2.out,B2.out⟩
 case round=>
  obtain⟨k,l,rfl,hk,H1,K,R,B⟩:=hrel;clear K2 R2 B2 ag;by_cases bh:k<n
  case neg=>
   obtain rfl:n=k:=by omega
   go_wp2;go_ret;refine⟨by have:=B.out;rwa[<-HN.out]at this,N,rfl,by rw[HN.out];exact No _,?_⟩;rw[<-R.all ab.1];exact K.out
  obtain⟨m,hm⟩:=nm (Nat.min k (n-k));have hm1:m<=k:=by rw[<-hm];exact Nat.min_le_left _ _
  have bb:k+m<=n:=by
   have:m<=n-k:=by rw[<-hm];exact Nat.min_le_right _ _
   omega
  have bi:1<=m:=by rw[<-hm];exact Nat.le_min.2 ⟨H1.out (by omega),by omega⟩
  have ax:∀ty,(Builtin.copy_ #[241,241] ty #[.slice (some ⟨N,k*3,none⟩) (n-k) (n-k),.slice N k n]).run prog wr.drew=.ok (.int .i64 (m:Int)) (wr.drew.setCells N (k*3) (l.take (m*3))):=fun ty=>by
   have:=yX wr.drew 241 241 ty 37 3 underlying241 ar N (k*3) (n-k) (n-k) ⟨N,0,none⟩ k n (l.take (m*3)) l 37 (by rw[hm,Nz,R.1];omega) (fun j v hv=>by
    rw[Addr.add_lit,Nm];rw[NR]at hv;split at hv
    ·exact(K.drew.at j v hv).1
    ·cases hv) K.drew (by rw[Nz,R.1];omega) (fun v hv=>by
    obtain⟨q,hq⟩:=List.mem_iff_getElem?.1 hv;rw[NR]at hq;split at hq
    ·rename_i bn;have h2:=R.2 (q/3) (q%3) (by omega) (Ni _ (by omega));rw[Nat.div_add_mod']at h2;rw[h2]at hq;exact ab.2 v (Oc hq)
    ·cases hq)
   rw[hm]at this;exact this
  have an:Hid (Blk (wr.drew.setCells N (k*3) (l.take (m*3))) N (ff l (k*3) (l.take (m*3))) 37/\gN cx n (k+m) (ff l (k*3) (l.take (m*3)))/\Below N w (wr.drew.setCells N (k*3) (l.take (m*3)))):=⟨Blk.setCells _ _ _ _ K.drew,R.more bb hm1,tO (No _) _ _ _ B.drew⟩
  generalize wr.drew.setCells N (k*3) (l.take (m*3))=W3 at *;obtain⟨bc,bd⟩:=ix (k:=k) (n:=n);have bg:((k:Int)+(m:Int))<=1024:=by omega
  go_wp2_with fail;refine aJ (S:=fun _=>True) [0,1,2,3,4,5,6,1007,8,9] trivial (fun ac=>?_);repeat refine ay ?_
  rw[if_neg (show ¬n=k by omega)];refine az fun K hK=>?_;go_simp;refine hK.out _ _ ?_ (fun ac=>?_)
  ·(try dsimp only);(all_goals trivial)
  clear hK K;try simp only[PT]
  repeat refine ay ?_
  refine aj ?_;rw[IntWalk.i64_in ((k:Int)+(m:Int)) ⟨by omega,by omega⟩];go_wp2;go_roundw
  case rel=>exact⟨k+m,_,by go_num,bb,(show 1<=n->1<=k+m from fun _=>by omega),an.1,an.2.1,an.2.2⟩
  case measure=>simp[intOf];omega
def qA(z)(n:Nat):madeCells #[z] n=(List.replicate n z).toArray:=by
 apply Array.ext
 ·simp[madeCells]
 ·intro i h1 h2;simp[madeCells,Nat.mod_one]
def Ib:(prog.info? 220).map (fun i=>(i.zero,i.size,i.bytes))=some (some (.slice none 0 0),1,24):=by kernel_rfl
def Ic:(prog.info? 4).map (fun i=>(i.zero,i.size,i.bytes))=some (some (.bool false),1,1):=by kernel_rfl
def Id(n:Nat)(hn:n<=1048576)(w):(Instr.makeSlice 147 (.int .i64 (n:Int)) (.int .i64 (n:Int))).run prog w=.ok (.slice w.heap.size n n) (w.alloc (.cells (Array.replicate n (.slice none 0 0)) 220)):=by
 rw[<-OQ,<-qA];exact run_make_row' 147 220 (.slice none 0 0) 24 underlying147 Ib rfl .i64 .i64 n (by omega) (by omega) w
def Ie(n:Nat)(hn:n<=1048576)(w):(Instr.makeSlice 220 (.int .i64 (n:Int)) (.int .i64 (n:Int))).run prog w=.ok (.slice w.heap.size n n) (w.alloc (.cells (Array.replicate n (.bool false)) 4)):=by
 rw[<-OQ,<-qA];exact run_make_row' 220 4 (.bool false) 1 underlying220 Ic rfl .i64 .i64 n (by omega) (by omega) w
def fg(r:RecR)(l:List aw)(i j:Nat):Bool:=decide (r.itemNo=(i:Int))&&l.any fun a=> !a.back&&decide (a.itemNo=(j:Int))
def dA(rs:List RecR)(i j:Nat):Bool:=rs.any fun r=>fg r r.ins i j
def jc(s:SrcR):Nat->Nat->Bool:=dA s.recs
def dg(g n k:Nat):List Value:=(List.range n).map fun j=>if j<k then .slice (some ⟨g+1+j,0,none⟩) n n else .slice none 0 0
def bZ(F:Nat->Nat->Bool)(n j:Nat):List Value:=(List.range n).map fun m=> .bool (F j m)
def kB{g n k j:Nat}(hj:j<n):(dg g n k)[j]? = some (if j<k then .slice (some ⟨g+1+j,0,none⟩) n n else .slice none 0 0):=by simp[dg,hj]
def lR{F:Nat->Nat->Bool}{n j m:Nat}(hm:m<n):(bZ F n j)[m]? = some (.bool (F j m)):=by simp[bZ,hm]
def If(g n:Nat):dg g n 0=List.replicate n (.slice none 0 0):=by simp[dg,List.map_const']
def Ig(g n k:Nat):(dg g n k).set k (.slice (some ⟨g+1+k,0,none⟩) n n)=dg g n (k+1):=by
 apply List.ext_getElem?;intro i;by_cases hi:i<n
 ·rw[List.getElem?_set,kB hi,kB hi];by_cases hk:k=i
  ·subst hk;simp[dg,hi]
  ·rw[if_neg hk];congr 1;by_cases h:i<k
   ·rw[if_pos h,if_pos (by omega)]
   ·rw[if_neg h,if_neg (by omega)]
 ·rw[OJ (by simp[dg];omega),OJ (by simp[dg];omega)]
def Ih(n j:Nat):bZ (fun _ _=>false) n j=List.replicate n (.bool false):=by simp[bZ,List.map_const']
def Ii(F F':Nat->Nat->Bool)(n i m:Nat)(hF:∀j k,F' j k=(F j k||(decide (j=i)&&decide (k=m)))):(bZ F n i).set m (.bool true)=bZ F' n i:=by
 apply List.ext_getElem?;intro k;by_cases hk:k<n
 ·rw[List.getElem?_set,lR hk,lR hk,hF];by_cases e:m=k
  ·subst e;simp[bZ,hk]
  ·rw[if_neg e];simp[show ¬k=m from fun h=>e h.symm]
 ·rw[OJ (by simp[bZ];omega),OJ (by simp[bZ];omega)]
def Ij(F F':Nat->Nat->Bool)(n i j m:Nat)(hF:∀j k,F' j k=(F j k||(decide (j=i)&&decide (k=m))))(h:j≠i):bZ F n j=bZ F' n j:=by
 unfold bZ;apply List.map_congr_left;intro k _;rw[hF];simp[h]
structure GSt(w:World)(g n k:Nat)(F:Nat->Nat->Bool)(W:World):Prop where
 bg:Blk W g (dg g n k) 220
 rw:∀j,j<k->Blk W (g+1+j) (bZ F n j) 4
 bl:eB w W
 ge:w.heap.size<=g
def GSt.below{w W W'}{g n k:Nat}{F:Nat->Nat->Bool}(h:GSt w g n k F W)(hb:eB W W'):GSt w g n k F W':=
 ⟨h.bg.below hb h.bg.lt,fun j hj=>(h.rw j hj).below hb (h.rw j hj).lt,h.bl.trans (hb.mono h.bl.size),h.ge⟩
def GSt.next{w W}{g n k:Nat}(h:GSt w g n k (fun _ _=>false) W)(hs:W.heap.size=g+1+k)(hk:k<n):GSt w g n (k+1) (fun _ _=>false) ((W.setCell ⟨g,k,none⟩ (.slice (some ⟨g+1+k,0,none⟩) n n)).alloc (.cells (Array.replicate n (.bool false)) 4)):=by
 have hz:(W.setCell ⟨g,k,none⟩ (.slice (some ⟨g+1+k,0,none⟩) n n)).heap.size=g+1+k:=by rw[<-hs];simp[World.setCell]
 refine⟨?_,fun j hj=>?_,(h.bl.setCell (p:=⟨g,k,none⟩) h.ge _).alloc (by have:=h.ge;omega) _,h.ge⟩
 ·rw[<-Ig];exact(h.bg.set k _).alloc _
 ·by_cases e:j=k
  ·subst e;rw[Ih,<-OQ];have:=Blk.new (W.setCell ⟨g,j,none⟩ (.slice (some ⟨g+1+j,0,none⟩) n n)) (List.replicate n (.bool false)) 4;rw[hz]at this;exact this
  ·exact((h.rw j (by omega)).other (by omega) _).alloc _
def GSt.edge{w W}{g n:Nat}{F F':Nat->Nat->Bool}(h:GSt w g n n F W)(i m:Nat)(hF:∀j k,F' j k=(F j k||(decide (j=i)&&decide (k=m))))(hi:i<n):GSt w g n n F' (W.setCell ⟨g+1+i,m,none⟩ (.bool true)):=by
 refine⟨h.bg.other (by omega) _,fun j hj=>?_,h.bl.setCell (p:=⟨g+1+i,m,none⟩) (by have:=h.ge;show _<=g+1+i;omega) _,h.ge⟩;by_cases e:j=i
 ·subst e;rw[<-Ii F F' n j m hF];exact(h.rw j hj).set m _
 ·rw[<-Ij F F' n i j m hF e];exact(h.rw j hj).other (by omega) _
def Blk.ne{w}{b c:Nat}{l m}{t u}(h:Blk w b l t)(k:Blk w c m u)(ht:t≠u):b≠c:=fun e=>by
 subst e;have:=h.symm.trans k;injection this with this;injection this with _ this _;exact ht this
def GrV(w:World)(B:Nat)(v:Value)(n:Nat)(E:Nat->Nat->Bool):Prop:=∃g,B<=g/\v=.slice (some ⟨g,0,none⟩) n n/\Blk w g (dg g n n) 220/\∀j,j<n->Blk w (g+1+j) (bZ E n j) 4
def GrV.below{w W}{B:Nat}{v}{n:Nat}{E:Nat->Nat->Bool}(h:GrV w B v n E)(hb:eB w W):GrV W B v n E:=by
 obtain⟨g,h0,h1,h2,h3⟩:=h;exact⟨g,h0,h1,h2.below hb h2.lt,fun j hj=>(h3 j hj).below hb (h3 j hj).lt⟩
def Ik(r)(F:Nat->Nat->Bool):(fun i j=>F i j||fg r [] i j)=F:=by funext i j;simp[fg]
def Il{r}{l:List aw}{k:Nat}{a:aw}(ha:l[k]? = some a)(i j:Nat):fg r (l.take (k+1)) i j=(fg r (l.take k) i j||(decide (r.itemNo=(i:Int))&&(!a.back&&decide (a.itemNo=(j:Int))))):=by
 unfold fg;rw[Ox,ha,List.any_append,Bool.and_or_distrib_left];simp
def Im{l:List RecR}{k:Nat}{r}(hr:l[k]? = some r)(i j:Nat):dA (l.take (k+1)) i j=(dA (l.take k) i j||fg r r.ins i j):=by
 unfold dA;rw[Ox,hr,List.any_append];simp
def tP(s:SrcR)(w:World)(e:Ending)(w':World):Prop:=eB w w'/\∃v,e=.returned v/\GrV w' w.heap.size v s.items.length (jc s)
def yZ(s)(w)(hS:ap w s)(hB:fF s=true):Calls prog 76 #[.agg (srcC s).toArray] w (tP s w):=by
 have db:(srcC s).toArray.size=8:=rfl;have ad:∀r∈s.recs,bG s r=true:=by
  unfold fF at hB;simp only[Ob,Od]at hB;exact hB.2.2.2.2.1
 have br:=MY ad;have bd:=MY hS.recv;have an:=MY hS.recs;obtain⟨F7,c7,e7⟩:=hS.recs.len;obtain⟨F1,c1,e1⟩:=hS.items.len;obtain⟨n,hn⟩:=nm s.items.length;obtain⟨nr,ba⟩:=nm s.recs.length;have ax:=hS.il;have ch:=hS.rl;unfold BIG at ax ch;rw[N6,ba]at e7;rw[N6,hn]at e1;rw[hn]at ax;rw[ba]at ch;have E7:=MY e7;have HN:=MY hn;have bx:=MY ba;have hm1:=Id n ax;have cv:=Ie n ax;obtain⟨h,hh⟩:=nm w.heap.size;obtain⟨W1,be⟩:=nm (w.alloc (.cells (srcC s).toArray 31));have K1:=MY (Blk.new w (srcC s) 31);have B1:=MY (ak w (.cells (srcC s).toArray 31));have bc:W1.heap.size=h+1:=by rw[<-be,<-hh];simp
 rw[be]at K1 B1;rw[hh]at K1;have x1:=(K1.at 1 _ rfl).1;rw[e1]at x1;have G0:Hid (GSt w (h+1) n 0 (fun _ _=>false) (W1.alloc (.cells (Array.replicate n (.slice none 0 0)) 220))):=by
  refine⟨?_,fun j hj=>absurd hj (Nat.not_lt_zero _),B1.alloc B1.size _,by omega⟩;rw[If,<-bc,<-OQ];exact Blk.new W1 _ _
 have K0:=MY (K1.alloc (.cells (Array.replicate n (.slice none 0 0)) 220));have cb:Hid ((W1.alloc (.cells (Array.replicate n (.slice none 0 0)) 220)).heap.size=h+1+1+0):=by show _=_;simp[bc]
 have cn:=MY bc;clear hS hB ad e7 hn ba bc;go_enter func76,ntmps76;go_wp2_with fail;clear be x1 hm1;rw[cn.out];go_loopw [14] (fun z W=>∃k:Nat,k<=n/\z=.int .i64 k/\Hid (GSt w (h+1) n k (fun _ _=>false) W)/\Hid (Blk W h (srcC s) 31)/\Hid (W.heap.size=h+1+1+k)) (fun z _=>n-(intOf z).toNat)
 case atStart=>exact⟨0,Nu _,rfl,G0.out,K0.out,cb.out⟩
 case round=>
  obtain⟨k,hk,rfl,G,K,HZ⟩:=hrel;clear G0 K0 cb;by_cases bm:k<n
  case pos=>
   have x1:=(K.at 1 _ rfl).1;rw[e1]at x1;obtain⟨q,f⟩:=G.bg.at k _ (kB bm);have cR:=G.bg.lt;obtain⟨cp,cq⟩:=ix (k:=k) (n:=n);go_wp2_with fail;rw[HZ.out];go_roundw
   case rel=>
    refine⟨k+1,by omega,by go_num,G.next HZ.out bm,?_,?_⟩
    ·exact(K.other (by omega) _).alloc _
    ·have hz:=HZ.out;simp[Hid,World.setCell,hz];omega
   case measure=>simp[intOf];omega
  obtain rfl:n=k:=by omega
  clear cv;have G1:Hid (GSt w (h+1) n n (dA (s.recs.take 0)) wr):=by
   show GSt w (h+1) n n _ wr;have e:dA (s.recs.take 0)=fun _ _=>false:=by funext i j;simp[dA]
   rw[e];exact G.out
  have x6:=(K.at 6 _ rfl).1;rw[E7.out]at x6;go_wp2_with fail;clear x6 G;go_loopw [28] (fun z W=>∃k:Nat,k<=nr/\z=.int .i64 k/\Hid (GSt w (h+1) n n (dA (s.recs.take k)) W)) (fun z _=>nr-(intOf z).toNat)
  case atStart=>exact⟨0,Nu _,rfl,G1.out⟩
  case round=>
   obtain⟨k,hk,rfl,G⟩:=hrel;clear G1 K HZ;by_cases bm:k<nr
   case neg=>
    obtain rfl:nr=k:=by omega
    have e:dA (s.recs.take nr)=jc s:=by rw[Ny (by rw[bx.out];exact No _)];rfl
    rw[e]at G;go_wp2_with fail;refine bodyPost_ret (v:= .slice (h+1:Nat) n n) (by simp[results,results76,go_sem]) rfl ⟨G.bl,_,rfl,h+1,by omega,by rw[HN.out],by rw[HN.out];exact G.bg,by rw[HN.out];exact G.rw⟩
   obtain⟨r,hr⟩:=gx (l:=s.recs) (i:=k) (by have:=bx.out;omega);have al:=Oc hr;obtain⟨bb,off,rfl,cd⟩:=an.rng E7.out (i:=k) (x:=am r) (by rw[Ou,hr];rfl);have bu:=MY (cd wr G.bl);obtain⟨cp,cq⟩:=ix (k:=k) (n:=nr);have cm:=MY (io (bd.out r al));have cl:=MY (kx (br.out r al)).1;have HI:Hid (∃i:Nat,r.itemNo=(i:Int)/\i<n):=by
    have:=br.out r al;unfold bG at this;simp only[aZ,Ob,decide_eq_true_eq,HN.out]at this;exact⟨r.itemNo.toNat,by omega,by omega⟩
   obtain⟨i,cf,ac⟩:=HI.out;have ca:=MY cf;have bt:=MY (bd.out r al).ins;have av:=(bd.out r al).inl;obtain⟨A2,c2,e2⟩:=bt.len;obtain⟨ni,aA⟩:=nm r.ins.length;unfold BIG at av;rw[N6,aA]at e2;rw[aA]at av;have E2:=MY e2;have bw:=MY aA;have HR:=MY hr;obtain⟨rb,bn⟩:=nm wr.heap.size;obtain⟨WA,bh⟩:=nm (wr.alloc (.cells (am r).toArray 55));have GA:=MY (G.below (ak wr (.cells (am r).toArray 55)));have XA:=MY (Blk.new wr (am r) 55);rw[bh]at GA XA;rw[bn]at XA;have GB:Hid (GSt w (h+1) n n (fun i j=>dA (s.recs.take k) i j||fg r (r.ins.take 0) i j) WA):=by
    show GSt w (h+1) n n _ WA;rw[N3,Ik];exact GA.out
   have G5:=(XA.at 5 _ rfl).1;rw[e2]at G5;clear hr al cd G HI cf aA e2 GA;go_upto_region 10 with(first|(refine wR 55 bu.out ?_)|(refine wB bn cm.out ?_))
   change Code.wp _ _ _ _ (wr.alloc (.cells (am r).toArray 55));rw[bh];simp only[PT];clear bh bn bu;go_wp2_with fail;clear G5;go_loopw [35] (fun z W=>∃m:Nat,m<=ni/\z=.int .i64 m/\Hid (GSt w (h+1) n n (fun i j=>dA (s.recs.take k) i j||fg r (r.ins.take m) i j) W)/\Hid (Blk W rb (am r) 55)) (fun z _=>ni-(intOf z).toNat)
   case atStart=>exact⟨0,Nu _,rfl,GB.out,XA.out⟩
   case round=>
    obtain⟨m,hm,rfl,G,X⟩:=hrel;clear GB XA;by_cases cu:m<ni
    case neg=>
     obtain rfl:ni=m:=by omega
     have GN:Hid (GSt w (h+1) n n (dA (s.recs.take (k+1))) wr):=by
      have e:dA (s.recs.take (k+1))=fun i j=>dA (s.recs.take k) i j||fg r (r.ins.take ni) i j:=by
       funext i j;rw[Im HR.out,Ny (l:=r.ins) (by rw[bw.out];exact No _)]
      show GSt w (h+1) n n _ wr;rw[e];exact G.out
     go_wp2_with fail;refine⟨⟨k+1,by omega,by go_num,GN.out⟩,?_⟩;simp[intOf];omega
    obtain⟨a,ha⟩:=gx (l:=r.ins) (i:=m) (by have:=bw.out;omega);obtain⟨cw,co,rfl,ar⟩:=bt.rng E2.out (i:=m) (x:=aG a) (by rw[Ou,ha];rfl);have bo:=cl.out a (Oc ha);obtain⟨j,_,_,_,_,it,_,_,cc,hit,_⟩:=nB bo;have cr:j<n:=by have:=(NQ.1 hit).1;rw[HN.out]at this;exact this
    have bp:=MY cc;have bv:=MY (ar wr G.bl);obtain⟨cx,cz⟩:=ix (k:=m) (n:=ni);have bs:=MY (fun i' j'=>Il (r:=r) ha i' j');obtain⟨ab,bk⟩:=nm wr.heap.size;obtain⟨WB,bi⟩:=nm (wr.alloc (.cells (aG a).toArray 59));have GB:=MY (G.below (ak wr (.cells (aG a).toArray 59)));have XB:=MY (X.alloc (.cells (aG a).toArray 59));have YB:=MY (Blk.new wr (aG a) 59);rw[bi]at GB XB YB;rw[bk]at YB;clear ha ar bo hit cc G X;go_upto_region 13 with(first|(refine wR 59 bv.out ?_)|(refine wB bk rfl ?_ (cs:=(aG a))))
    change Code.wp _ _ _ _ (wr.alloc (.cells (aG a).toArray 59));rw[bi];simp only[PT];clear bi bk bv;have y4:=(YB.at 4 _ rfl).1
    cases ag:a.back with
    |true=>
     rw[ag]at y4
     have GN:Hid (GSt w (h+1) n n (fun i j=>dA (s.recs.take k) i j||fg r (r.ins.take (m+1)) i j) WB):=by
      have e:(fun i j=>dA (s.recs.take k) i j||fg r (r.ins.take (m+1)) i j)=fun i j=>dA (s.recs.take k) i j||fg r (r.ins.take m) i j:=by
       funext i j;rw[bs.out,ag];simp
      show GSt w (h+1) n n _ WB;rw[e];exact GB.out
     clear ag
     go_wp2_with fail
     refine⟨⟨m+1,by omega,by go_num,GN.out,XB.out⟩,?_⟩
     simp[intOf];omega
    |false=>
     rw[ag]at y4
     have HB:=MY ag
     have GN:=MY (GB.edge (F':=fun i j=>dA (s.recs.take k) i j||fg r (r.ins.take (m+1)) i j) i j (fun i' j'=>by
      rw[bs.out,HB.out,ca.out,bp.out,Bool.or_assoc];congr 2;have t1:((i:Int)=(i':Int))<->(i'=i):=by omega
      have t2:((j:Int)=(j':Int))<->(j'=j):=by omega
      simp only[t1,t2,Bool.not_false,Np]) ac)
     have y6:=(YB.at 6 _ rfl).1
     rw[bp.out]at y6
     have ci:=(XB.at 15 _ rfl).1
     rw[ca.out]at ci
     have q1:=(GB.bg.at i _ (kB ac)).1
     rw[if_pos ac]at q1
     obtain⟨q2,f2⟩:=(GB.rw i ac).at j _ (lR cr)
     obtain⟨cC,cD⟩:=ix (k:=i) (n:=n)
     obtain⟨cN,cP⟩:=ix (k:=j) (n:=n)
     have XN:=MY (XB.other (c:=h+1+1+i) (i:=j) (XB.ne (GB.rw i ac) (by decide)) (.bool true))
     have l1:=GB.bg.lt
     have l2:=(GB.rw i ac).lt
     have l3:=YB.lt
     have l4:=XB.lt
     have n1:¬rb=h+1+1+i:=XB.ne (GB.rw i ac) (by decide)
     have n2:¬ab=h+1+1+i:=YB.ne (GB.rw i ac) (by decide)
     have n3:¬h+1=h+1+1+i:=by omega
     clear ag
     go_wp2_with fail
     refine aJ (S:=fun w'=>∀b o,b<WB.heap.size->¬b=h+1+1+i->w'.cell? ⟨b,o,none⟩=WB.cell? ⟨b,o,none⟩) [0,1,2,3,4,5,6,7,1008] (fun b o _ _=>rfl) (fun ao=>?_)
     repeat refine ay ?_
     refine az fun K hK=>?_
     go_simp
     refine hK.out _ _ (fun b o h1 h2=>?_) (fun ao=>?_)
     ·exact NK _ _ _ _ (fun e=>h2 (by injection e with e;exact e.symm))
     clear hK K
     refine aj ?_
     clear q1 q2 f2 y4 y6 ci
     go_wp2_with fail
     refine⟨⟨m+1,by omega,by go_num,?_,?_⟩,?_⟩
     ·exact⟨GN.bg,GN.rw,GN.bl.drew,GN.ge⟩
     ·exact XN.out
     ·simp[intOf];omega
def y8{P}{l rest ab:List Oper}{Q}{S:World->Prop}{i j:Nat}{is:List Nat}{o1 o2:Oper}{a:Act}{w:World}(T)(n:Nat)(hT:bW P T n=true)(hi:Nat.blt i 1000=false)(hj:Nat.blt j 1000=false)(hl:l.drop (i-1000)=o1::rest)(ag:l.drop (j-1000)=o2::ab)(hw:Region.wanted o1 (yielded l.toArray a.tmps)=true)(x y)(h1:o1.op=.alloc T)(h2:o2.op=.store T x y)(N:Nat)(hN:w.heap.size=N)(ao:Region.wanted o2 (yielded l.toArray (a.put o1.dst (.pointer N)).tmps)=true)(hx:(a.put o1.dst (.pointer N)).eval x=.pointer N)(cs:List Value)(hy:(a.put o1.dst (.pointer N)).eval y=.agg cs.toArray)(hn:cs.length=n)(hc:(cs.all fun v=>v.oneCell')=true)(hS:∀o,S (w.alloc o))(h:aE P l.toArray Q S is ((a.put o1.dst (.pointer N)).put o2.dst undef) (w.alloc (.cells cs.toArray T))):aE P l.toArray Q S (i::j::is) a w:=by
 subst hN;obtain⟨ti,z,an,hs,hz,ar⟩:=pq hT;refine gB hi hl hw (fun K hK=>?_);have e1:(execOp a.eval o1).run P w=.ok (.value (.pointer w.heap.size)) (w.alloc (.cells z.cells T)):=by
  unfold execOp;simp only[h1];simp[Instr.alloc,zeroValue,typeInfo,an,hz,newVar,go_sem]
 unfold Oper.wp;rw[e1,Oper.upon_value];refine hK.out _ _ (hS _) (fun _=>?_);refine gB hj ag ao (fun K' ad=>?_);have ac:(cs.toArray).size=n:=by simpa using hn
 have al:=run_storeAt_new (P:=P) w T z.cells cs.toArray (by rw[eQ hT,ac]) (by rw[ar,ac]) (by simpa using hc);have e2:(execOp (a.put o1.dst (.pointer w.heap.size)).eval o2).run P (w.alloc (.cells z.cells T))=.ok .skip (w.alloc (.cells cs.toArray T)):=by
  unfold execOp;simp only[h2,hx,hy,NM,al,NO,NN]
 unfold Oper.wp;rw[e2,Oper.upon_skip];exact ad.out _ _ (hS _) (fun _=>h)
structure bQ where
 v:Value
 l:List Rt
structure gj(w:World)(v:Value)(M:List bQ):Prop where
 top:RowC w 1 v (M.map fun r=>[r.v])
 rows:∀r∈M,RowC w 3 r.v (r.l.map aS)
def gj.below{w W}{v}{M:List bQ}(h:gj w v M)(hb:eB w W):gj W v M:=⟨h.top.below hb,fun r hr=>(h.rows r hr).below hb⟩
def dI(l:List Rt):List Value:=(l.map aS).flatten
def za(l):(dI l).length=l.length*3:=by unfold dI;rw[gK _ 3 (by intro x hx;obtain⟨a,_,rfl⟩:=List.mem_map.1 hx;rfl)];simp
def qB{l}{q u:Nat}{c}(h:l[q]? = some c)(hu:u<3):(dI l)[q*3+u]? = (aS c)[u]?:=
 j7 (l.map aS) 3 (by intro x hx;obtain⟨a,_,rfl⟩:=List.mem_map.1 hx;rfl) q u (aS c) (by rw[Ou,h];rfl) hu
def tQ{w}{g n:Nat}{l}(h:Blk w g (dI l) 37)(hn:l.length=n)(c:Nat)(hc:n<=c):RowC w 3 (.slice g n c) (l.map aS):=
 RowC.of_blk h (l.map aS) rfl (by intro x hx;obtain⟨a,_,rfl⟩:=List.mem_map.1 hx;rfl) (by simp[hn]) c hc
def dh(gs:List Nat)(n:Nat):List Value:=gs.map (fun g=>Value.slice (some ⟨g,0,none⟩) n n)++List.replicate (n-gs.length) (.slice none 0 0)
def tR{gs:List Nat}{n i g:Nat}(h:gs[i]? = some g):(dh gs n)[i]? = some (.slice g n n):=by
 have:=(NQ.1 h).1;unfold dh;rw[N4 (by simpa using this),Ou,h];rfl
def zb(n:Nat):dh [] n=List.replicate n (.slice none 0 0):=by simp[dh]
def zc{gs:List Nat}{n:Nat}(h:gs.length<=n):(dh gs n).length=n:=by simp[dh];omega
def zd{gs:List Nat}{n g:Nat}(h:gs.length<n):(dh gs n).set gs.length (.slice g n n)=dh (gs++[g]) n:=by
 unfold dh;rw[Oy _ _ (by simp)];obtain⟨m,hm⟩:∃m,n-gs.length=m+1:=⟨n-gs.length-1,by omega⟩
 rw[hm,Oe,OP,show n-(gs.length+1)=m by omega];simp[List.replicate_succ]
structure cX(w:World)(g n:Nat)(gs:List Nat)(rows:List (List Rt))(W:World):Prop where
 bl:eB w W
 top:Blk W g (dh gs n) 241
 lo:w.heap.size<=g
 hi:∀x∈gs,g<x
 len:gs.length=rows.length
 row:∀(i x:Nat)(l:List Rt),gs[i]? = some x->rows[i]? = some l->Blk W x (dI l) 37/\l.length=n
section
variable {w W W':World} {g n:Nat} {gs:List Nat} {rows:List (List Rt)}
def cX.below(h:cX w g n gs rows W)(hb:eB W W'):cX w g n gs rows W':=
 ⟨h.bl.trans (hb.mono h.bl.size),h.top.below hb h.top.lt,h.lo,h.hi,h.len,fun i x l h1 h2=>⟨(h.row i x l h1 h2).1.below hb (h.row i x l h1 h2).1.lt,(h.row i x l h1 h2).2⟩⟩
def cX.lt(h:cX w g n gs rows W):∀x∈gs,x<W.heap.size:=fun x hx=>by
 obtain⟨i,hi⟩:=List.mem_iff_getElem?.1 hx;have:=(NQ.1 hi).1;exact(h.row i x _ hi (Nx (by rw[<-h.len];exact this))).1.lt
def cX.grown{r:Nat}(h:cX w g n gs rows W)(hg:W.grownBy W' (some r))(h1:g<r)(h2:∀x∈gs,x≠r):cX w g n gs rows W':=
 ⟨h.bl.grown hg h.bl.size (fun k e=>by cases e;have:=h.lo;omega),h.top.grown hg (fun e=>by cases e;omega),h.lo,h.hi,h.len,fun i x l h3 h4=>⟨(h.row i x l h3 h4).1.grown hg (fun e=>h2 x (Oc h3) (Option.some.inj e)),(h.row i x l h3 h4).2⟩⟩
def cX.next{x:Nat}{l}(h:cX w g n gs rows W)(hx:g<x)(ht:Blk W' g (dh (gs++[x]) n) 241)(hb:eB w W')(hr:Blk W' x (dI l) 37)(hl:l.length=n)(hk:∀y∈gs,W'.heap[y]? = W.heap[y]?):cX w g n (gs++[x]) (rows++[l]) W':=by
 refine⟨hb,ht,h.lo,fun y hy=>?_,by simp[h.len],fun i y m h1 h2=>?_⟩
 ·rcases Of.1 hy with hy|hy
  ·exact h.hi y hy
  ·rw[Oi]at hy;subst hy;exact hx
 ·by_cases hi:i<gs.length
  ·rw[N4 hi]at h1;rw[N4 (by rw[<-h.len];exact hi)]at h2;exact⟨(hk y (Oc h1)).trans (h.row i y m h1 h2).1,(h.row i y m h1 h2).2⟩
  ·have ab:=(NQ.1 h1).1;rw[Oe,OP]at ab;obtain rfl:i=gs.length:=by omega
   rw[N5 (No _)]at h1;rw[N5 (by rw[h.len];exact No _)]at h2;simp at h1;rw[h.len]at h2;simp at h2;subst h1 h2;exact⟨hr,hl⟩
def cX.mat(h:cX w g n gs rows W)(hn:gs.length=n):∃M:List bQ,M.map (·.l)=rows/\gj W (.slice g n n) M:=by
 refine⟨(gs.zip rows).map fun p=>⟨.slice (some ⟨p.1,0,none⟩) n n,p.2⟩,?_,?_,?_⟩
 ·rw[List.map_map];exact List.map_snd_zip (by rw[h.len];exact No _)
 ·have e:((gs.zip rows).map fun p=>(⟨.slice (some ⟨p.1,0,none⟩) n n,p.2⟩:bQ)).map (fun r=>[r.v])=gs.map fun x=>[Value.slice (some ⟨x,0,none⟩) n n]:=by
   rw[List.map_map];have:(gs.zip rows).map (fun p=>[Value.slice (some ⟨p.1,0,none⟩) n n])=((gs.zip rows).map Prod.fst).map fun x=>[Value.slice (some ⟨x,0,none⟩) n n]:=by rw[List.map_map];rfl
   exact this.trans (by rw[List.map_fst_zip (by rw[h.len];exact No _)])
  rw[e];refine RowC.of_blk h.top _ ?_ (by intro x hx;obtain⟨a,_,rfl⟩:=List.mem_map.1 hx;rfl) (by simp[hn]) n (No _);unfold dh;rw[hn,Nat.sub_self];simp only[List.replicate_zero,Oz];clear h hn e;induction gs with
  |nil=>rfl
  |cons a t ih=>simpa using ih
 ·intro r hr;obtain⟨p,hp,rfl⟩:=List.mem_map.1 hr;obtain⟨i,hi⟩:=List.mem_iff_getElem?.1 hp;rw[List.getElem?_zip_eq_some]at hi;obtain⟨h1,h2⟩:=h.row i p.1 p.2 hi.1 hi.2;exact tQ h1 h2 n (No _)
end
def b9(W:World)(x n:Nat)(L:List Rt):Prop:=L.length<=n/\∃l:List Value,Blk W x l 37/\l.length=n*3/\∀q c,L[q]? = some c->∀u,u<3->l[q*3+u]? = (aS c)[u]?
def b9.below{W W'}{x n:Nat}{L}(h:b9 W x n L)(hb:eB W W'):b9 W' x n L:=by
 obtain⟨h0,l,h1,h2,h3⟩:=h;exact⟨h0,l,h1.below hb h1.lt,h2,h3⟩
def b9.put{W}{x n:Nat}{L}(h:b9 W x n L)(hl:L.length<n)(c:Rt):b9 (((W.setCell ⟨x,L.length*3,none⟩ (.bool c.neg)).setCell ⟨x,L.length*3+1,none⟩ (.string (bs c.n))).setCell ⟨x,L.length*3+2,none⟩ (.string (bs c.d))) x n (L++[c]):=by
 obtain⟨h0,l,h1,h2,h3⟩:=h;refine⟨by simp;omega,_,((h1.set _ _).set _ _).set _ _,by simp[h2],fun q d hq u hu=>?_⟩;by_cases ad:q<L.length
 ·rw[N4 ad]at hq;rw[Oo (by omega),Oo (by omega),Oo (by omega)];exact h3 q d hq u hu
 ·have ab:=(NQ.1 hq).1;rw[Oe,OP]at ab;obtain rfl:q=L.length:=by omega
  rw[N5 (No _)]at hq;simp at hq;subst hq;have ac:L.length*3+2<l.length:=by omega
  match u,hu with
  |0,_=>rw[Oo (by omega),Oo (by omega),Na,On (by omega)];rfl
  |1,_=>rw[Oo (by omega),On (by simp;omega)];rfl
  |2,_=>rw[On (by simp;omega)];rfl
def b9.done{W}{x n:Nat}{L}(h:b9 W x n L)(hl:L.length=n):Blk W x (dI L) 37:=by
 obtain⟨h0,l,h1,h2,h3⟩:=h;have e:l=dI L:=by
  apply List.ext_getElem?;intro k;by_cases hk:k<n*3
  ·have hq:k/3<L.length:=by omega
   have e1:=h3 (k/3) _ (Nx hq) (k%3) (Ni _ (by omega));have e2:=qB (Nx hq) (Ni k (show 0<3 by omega));rw[Nat.div_add_mod']at e1 e2;rw[e1,e2]
  ·rw[OJ (by omega),OJ (by rw[za];omega)]
 rw[<-e];exact h1
def b9.cells{W}{x n:Nat}{L}(h:b9 W x n L){q:Nat}(hq:q<n)(u:Nat)(hu:u<3):∃v,W.cell? ⟨x,q*3+u,none⟩=some v/\W.frozen? ⟨x,q*3+u,none⟩=false/\x<W.heap.size:=by
 obtain⟨h0,l,h1,h2,h3⟩:=h;have:=h1.at (q*3+u) _ (Nx (by omega));exact⟨_,this.1,this.2,h1.lt⟩
def b9.new{W}{x n:Nat}{l}(h:Blk W x l 37)(hl:l.length=n*3):b9 W x n []:=⟨Nu _,l,h,hl,fun q c hq=>by simp at hq⟩
def ze(w:World)(o:Option (List (List Rt)))(e:Ending)(w':World):Prop:=eB w w'/\∃v k,e=.returned (.tuple #[v,.int .i64 k])/\(k=0<->o.isSome=true)/\∀m,o=some m->∃M:List bQ,M.map (·.l)=m/\gj w' v M
def zf(n:Nat)(hn:n<=1048576)(w):(Instr.makeSlice 320 (.int .i64 (n:Int)) (.int .i64 (n:Int))).run prog w=.ok (.slice w.heap.size n n) (w.alloc (.cells (Array.replicate n (.slice none 0 0)) 241)):=by
 rw[<-OQ,<-qA];exact run_make_row' 320 241 (.slice none 0 0) 24 underlying320 (by kernel_rfl) rfl .i64 .i64 n (by omega) (by omega) w
section
attribute [local go_sem] Oper.semAt_some
def uI{α:Type}(F:Fence)(n:Nat)(P:Program)(g:Nat)(lb:Array Value)(encs:α->Array Value)(T:TypeId)(S Sx:List α->Prop)(G:List PanicEntry->List α->Prop)(N:Nat)(w:World)(A:World->Prop)(Kp:World->World->Prop):Prop:=
 ∀(l:Nat)(J Jx:List α->World->Prop) (W:World),eB w W->A W->AbX W.heap.size T J->
  (∀pre x W1,J pre W1->pre.length<N->YieldAt F (n-1) P l (encs x) W1 fun e W'=>(e=.returned (.bool true)/\J (pre++[x]) W'/\aI T W1 W'/\Kp W1 W'/\KeepsWalks W1 W')\/(e=.returned (.bool false)/\Jx (pre++[x]) W'))->
  J [] W->
  CallsIn F n P g (#[.func (.yield l) #[] #[]]++lb) W fun e W'=>((∃v,e=.returned v)/\((∃xs,S xs/\J xs W')\/(∃xs,Sx xs/\Jx xs W')))\/(∃c xs,e=.panicked c/\G c xs/\J xs W')
def Lp{α:Type}(x:Exit)(T:TypeId)(Kp:World->World->Prop)(I Ix:List α->World->Prop)(xs:List α)(W:World):Exit->Act->World->Prop
 |.normal,_,W'=>KeepsOthers W W'/\aI T W W'/\Kp W W'/\I xs W'
 |e,_,W'=>e=x/\KeepsOthers W W'/\Ix xs W'
def Lq(x:Exit)(pc:Code):Prop:=(x=.ret/\pc=.ret)\/∃id,x=.exit id/\pc=.exit id
def KpO(N:Nat)(V W:World):Prop:=∀(b:Nat)(o:Obj),b<N->V.heap[b]? = some o->W.heap[b]? = some o
def KpB(N:Nat)(V W:World):Prop:=N<=V.heap.size->Below N V W
def KpO.trans{N:Nat}{U V W}(h:KpO N U V)(k:KpO N V W):KpO N U W:=fun b o hb ho=>k b o hb (h b o hb ho)
def KpO.grown{N:Nat}{V W:World}(h:V.grownBy W none):KpO N V W:=fun b _ _ ho=>(h.block b (NX.1 ho).1 (by simp)).trans ho
def KpO.put{N l:Nat}{V}(o':Obj)(hl:N<=l):KpO N V (V.putObj l o'):=fun b _ hb ho=>(OM (by omega)).trans ho
def KpB.trans{N:Nat}{U V W}(h:KpB N U V)(k:KpB N V W):KpB N U W:=fun hN=>(h hN).trans (k (Nv hN (h hN).size))
def KpB.grown{N:Nat}{V W:World}(h:V.grownBy W none):KpB N V W:=fun hN=>⟨h.os,h.tape,h.output,h.size,fun k hk=>h.block k (by omega) (by simp)⟩
def KpB.put{N l:Nat}{V}(o':Obj)(hl:N<=l):KpB N V (V.putObj l o'):=fun hN=>(NB N V).grown (grownBy_putObj' V l o') hN (fun k e=>by cases e;exact hl)
variable {F:Fence} {n:Nat} {P:Program}
def qX{α:Type}{g}{ps:Array Tmp}{assign body:Code}{Q}{a:Act}{w}{x:Exit}{pc:Code}(hx:Lq x pc)(cw:F.round=none)(h1:1<=n){gf:Nat}{lb}(hg:a.eval g=.func (.func gf) #[] lb)(cc:F.fn gf)(eg:∀args w,(callFunc gf args).run P w=.ok (.enter gf args) w){encs:α->Array Value}{T}{S Sx:List α->Prop}{G:List PanicEntry->List α->Prop}{N:Nat}{w0}{A:World->Prop}{Kp:World->World->Prop}(bh:∀{U V W},Kp U V->Kp V W->Kp U W)(ci:∀{V W:World},V.grownBy W none->Kp V W)(bu:∀(V:World)(l:Nat) (o o':Obj),w.heap.size<=l->V.heap[l]? = some o->o.isCells=false->Kp V (V.putObj l o'))(bs:uI F (n-1) P gf lb encs T S Sx G N w0 A Kp)(hA:A w)(bt:∀(V)(o:Obj),A V->A (V.alloc o))(bw:eB w0 w)(cv:∀x,(encs x).size=ps.size)(I Ix:List α->World->Prop)(hI:pY w.heap.size T I)(hIx:pY w.heap.size T Ix)(h0:I [] w)(Ax:α->Act->World->Prop)(hAx:∀x a',OwnFrom w.heap.size (fun(_:Unit) W=>Ax x a' W))(an:∀(l:Nat)(x:α) (W:World) (K:Act->World->Prop),(∀a' W',W.grownBy W' none->Ax x a' W'->K a' W')->assign.wpIn (F.inRound l) (n-1-1) P (Exit.then K (fun _ _ _=>False)) {tmps:=(ps.zip (encs x)).foldl (fun t (p,v)=>t.setIfInBounds p v) a.tmps,defers:=[]} W)(bc:∀(l:Nat)(pre:List α) (y:α) (a') (W),I pre W->Ax y a' W->pre.length<N->body.wpIn (F.inRound l) (n-1-1) P (Lp x T Kp I Ix (pre++[y]) W) a' W)(bd:∀(D:Nat)(xs:List α) (W),w.heap.size<=D->S xs->I xs W->W.heap[D]? = some (.deferred (some []))->Q .normal {a with defers:={target:= .collected D,args:=#[]}::a.defers} W)(bg:∀(D:Nat)(xs:List α) (W),w.heap.size<=D->Sx xs->Ix xs W->W.heap[D]? = some (.deferred (some []))->pc.wpIn F n P Q {a with defers:={target:= .collected D,args:=#[]}::a.defers} W)(br:∀(D:Nat)(c:List PanicEntry) (xs:List α) (W),w.heap.size<=D->G c xs->I xs W->W.heap[D]? = some (.deferred (some []))->Q (.panic c) {a with defers:={target:= .collected D,args:=#[]}::a.defers} W) :(Code.rangeFunc g ps assign body).wpIn F n P Q a w:=by
 refine wpIn_rangeFunc ?_;intro fn cp;rw[cw];obtain⟨ac,ab⟩:∃ac:LoopState->Option Code->Loop,ac=fun st pe=>{state:=st,pending:=pe,fn,tmps:=a.tmps,params:=ps,assign,body,defers:=w.heap.size}:=⟨_,rfl⟩
 obtain⟨W1,ar⟩:=nm ((w.alloc (.deferred (some []))).alloc (.loop (ac .ready none)));have cC:W1.heap.size=w.heap.size+1+1:=by rw[<-ar];simp
 have cl:W1.heap[w.heap.size+1]? = some (.loop (ac .ready none)):=by
  rw[<-ar];have:=N8 (w.alloc (.deferred (some []))) (.loop (ac .ready none));rwa[NU]at this
 have cf:W1.heap[w.heap.size]? = some (.deferred (some [])):=by
  rw[<-ar];exact(NT _ _ _ (by simp)).trans (N8 w _)
 have bv:∀(V:World)(o:Obj),I [] V->I [] (V.alloc o):=fun V o h=>hI _ V _ none h (ON V o none) (fun r e=>by cases e);have cd:I [] W1:=by rw[<-ar];exact bv _ _ (bv _ _ h0)
 have cn:eB w0 W1:=by
  rw[<-ar];exact bw.trans ((((NB _ w).alloc (No _) _).alloc (by simp) _).mono bw.size)
 have ba:∀(s:List α)(W:World) (o o':Obj),I s W->W.heap[w.heap.size+1]? = some o->o.isCells=false->I s (W.putObj (w.heap.size+1) o'):=fun s W o o' hs hl ho=>
  hI s W _ (some (w.heap.size+1)) hs (grownBy_putObj' W _ o') (fun r e=>by cases e;exact⟨by omega,o,hl,.inl ho⟩)
 have ao:∀(s:List α)(W:World) (o o':Obj),Ix s W->W.heap[w.heap.size+1]? = some o->o.isCells=false->Ix s (W.putObj (w.heap.size+1) o'):=fun s W o o' hs hl ho=>
  hIx s W _ (some (w.heap.size+1)) hs (grownBy_putObj' W _ o') (fun r e=>by cases e;exact⟨by omega,o,hl,.inl ho⟩)
 refine⟨w.heap.size+1,[{target:= .collected w.heap.size,args:=#[]}],W1,{target:= .fn (.func gf) lb,args:=#[.func (.yield (w.heap.size+1)) #[] #[]]},W1,gf,
  #[.func (.yield (w.heap.size+1)) #[] #[]]++lb,W1,?_,?_,?_,?_,fun _=>h1,?_⟩
 ·rw[<-ar,ab];exact run_enterLoop_outer _ _ _ _ _
 ·simp only[resolve,hg];simp[go_sem]
 ·intro f' bx;simp[Target.leads]at bx;subst bx;exact cc
 ·simp[invoke,go_sem,eg]
 ·refine(bs (w.heap.size+1)
   (fun pre W=>I pre W/\W.heap[w.heap.size+1]? = some (.loop (ac .ready none))/\W.heap[w.heap.size]? = some (.deferred (some [])))
   (fun pre W=>Ix pre W/\W.heap[w.heap.size+1]? = some (.loop (ac .done (some pc)))/\W.heap[w.heap.size]? = some (.deferred (some [])))
   W1 cn (by rw[<-ar];exact bt _ _ (bt _ _ hA))
   (fun s A B row hs hg' hr=>⟨hI s A B row hs.1 hg' (fun r e=>by
    obtain⟨hB,o,ho,be⟩:=hr r e;refine⟨by omega,o,ho,?_⟩;rcases be with be|be
    ·exact .inl (Obj.not_cells_of_walk be)
    ·exact .inr be),
    (hg'.block _ (NX.1 hs.2.1).1 (fun e=>by have:=(hr _ e.symm).1;omega)).trans hs.2.1,
    (hg'.block _ (NX.1 hs.2.2).1 (fun e=>by have:=(hr _ e.symm).1;omega)).trans hs.2.2⟩)
   ?_ ⟨cd,cl,cf⟩).mono ?_
  ·rintro pre y W ⟨hi,hl,hk⟩ bo;have cu:w.heap.size+1<W.heap.size:=(NX.1 hl).1;have hy:=run_yield (P:=P) (args:=encs y) hl (by rw[ab];exact cv y);rw[ab]at hy;refine⟨fn,_,assign,body,hy,roundIn_of_wpIn cp (an _ y W _ fun a' W' bb cm=>?_)⟩;have ax:W'.heap[w.heap.size+1]? = some (.loop (ac .ready none)):=(bb.block _ cu (by simp)).trans hl;have cr:W'.heap[w.heap.size]? = some (.deferred (some [])):=(bb.block _ (by omega) (by simp)).trans hk;have bp:w.heap.size+1<W'.heap.size:=(NX.1 ax).1;have cq:I pre W':=hI _ W _ none hi bb (fun r e=>by cases e);have bm:KeepsOthers W W':=KeepsOthers.of_grownBy bb (fun j o e _=>by cases e);have bn:aI T W W':=aI.grown bb (fun r cs fr e=>by cases e);have bk:Kp W W':=ci bb;refine⟨_,run_beginRound ax (by rw[ab]),?_⟩;have cb:(W'.putObj (w.heap.size+1) (.loop {ac .ready none with state:= .busy})).heap[w.heap.size+1]? = some (.loop {ac .ready none with state:= .busy}):=World.putObj_heap_same bp;have ca:(W'.putObj (w.heap.size+1) (.loop {ac .ready none with state:= .busy})).heap[w.heap.size]? = some (.deferred (some [])):=(OM (by omega)).trans cr;have cx:aI T W (W'.putObj (w.heap.size+1) (.loop {ac .ready none with state:= .busy})):=bn.trans (aI.putObj _ ax rfl);have bl:=bh bk (bu W' _ _ (.loop {ac .ready none with state:= .busy}) (by omega) ax rfl)
   have bi:Ax y a' (W'.putObj (w.heap.size+1) (.loop {ac .ready none with state:= .busy})):=hAx y a' () W' _ (some (w.heap.size+1)) cm (grownBy_putObj' W' _ _) (fun r e=>by cases e;exact⟨by omega,_,ax,rfl⟩);have fin:∀W3,KeepsOthers (W'.putObj (w.heap.size+1) (.loop {ac .ready none with state:= .busy})) W3->Ix (pre++[y]) W3->∃v w',(Instr.endRound (w.heap.size+1) (some pc)).run P W3=.ok v w'/\((Ending.returned v=.returned (.bool true)/\(I (pre++[y]) w'/\w'.heap[w.heap.size+1]? = some (.loop (ac .ready none))/\w'.heap[w.heap.size]? = some (.deferred (some [])))/\aI T W w'/\Kp W w'/\KeepsWalks W w')\/(Ending.returned v=.returned (.bool false)/\Ix (pre++[y]) w'/\w'.heap[w.heap.size+1]? = some (.loop (ac .done (some pc)))/\w'.heap[w.heap.size]? = some (.deferred (some [])))):=by
    intro W3 ag av;have al:=ag.same _ _ cb rfl;have hr:=run_endRound (P:=P) (some pc) al;rw[ab]at hr;have aA:=(NX.1 al).1;refine⟨_,_,hr,.inr ⟨rfl,ao _ _ _ _ av al rfl,?_,(OM (by omega)).trans (ag.same _ _ ca rfl)⟩⟩;rw[ab];exact World.putObj_heap_same aA
   refine wpIn_mono (bc _ pre y _ _ (ba _ _ _ _ cq ax rfl) bi bo) ?_;rintro e a3 W3 hp
   cases e with
   |normal=>
    obtain⟨ag,cz,co,av⟩:=hp
    have al:=ag.same _ _ cb rfl
    have hr:=run_endRound (P:=P) none al
    rw[ab]at hr
    have aA:=(NX.1 al).1
    refine⟨_,_,hr,.inl ⟨rfl,⟨ba _ _ _ _ av al rfl,?_,(OM (by omega)).trans (ag.same _ _ ca rfl)⟩,(cx.trans cz).trans (aI.putObj _ al rfl),bh (bh bl co) (bu _ _ _ _ (by omega) al rfl),((bm.walks.trans (KeepsWalks.putObj _ ax rfl)).trans ag.walks).trans (KeepsWalks.putObj _ al rfl)⟩⟩
    rw[ab]
    exact World.putObj_heap_same aA
   |panic ch=>obtain⟨rfl,_⟩:=hp;rcases hx with⟨e,_⟩|⟨id,e,_⟩ <;> cases e
   |outgrown=>obtain⟨rfl,_⟩:=hp;rcases hx with⟨e,_⟩|⟨id,e,_⟩ <;> cases e
   |goto t=>obtain⟨rfl,_⟩:=hp;rcases hx with⟨e,_⟩|⟨id,e,_⟩ <;> cases e
   |ret=>
    obtain⟨rfl,ag,av⟩:=hp
    obtain rfl:pc=.ret:=by rcases hx with⟨_,e⟩|⟨id,e,_⟩;exact e;cases e
    exact fin W3 ag av
   |exit id=>
    obtain⟨rfl,ag,av⟩:=hp
    obtain rfl:pc=.exit id:=by
     rcases hx with⟨e,_⟩|⟨cD,e,e'⟩
     ·cases e
     ·cases e;exact e'
    exact fin W3 ag av
  ·rintro e W2 (⟨⟨v,rfl⟩,(⟨xs,hs,hi,hl,hk⟩|⟨xs,hs,hi,hl,hk⟩)⟩|⟨c,xs,rfl,hg,hi,hl,hk⟩)
   ·have ad:=run_endLoop (P:=P) hl (by rw[ab];simp);rw[ab]at ad;exact⟨none,_,ad,bd _ xs _ (No _) hs (ba _ _ _ _ hi hl rfl) ((OM (by omega)).trans hk)⟩
   ·have ad:=run_endLoop (P:=P) hl (by rw[ab];simp);rw[ab]at ad;exact⟨some pc,_,ad,bg _ xs _ (No _) hs (ao _ _ _ _ hi hl rfl) ((OM (by omega)).trans hk)⟩
   ·exact br _ c xs _ (No _) hg hi hk
end
section
attribute [local go_sem] Oper.semAt_some
def dp(E:Nat->Nat->Bool)(i k:Nat):List Nat:=(List.range k).filter (E i)
def AN{E:Nat->Nat->Bool}{i k:Nat}(h:E i k=true):dp E i (k+1)=dp E i k++[k]:=by simp[dp,List.range_succ,List.filter_append,h]
def AO{E:Nat->Nat->Bool}{i k:Nat}(h:E i k=false):dp E i (k+1)=dp E i k:=by simp[dp,List.range_succ,List.filter_append,h]
def AQ(E:Nat->Nat->Bool)(i k:Nat):(dp E i k).length<=k:=by
 have:=List.length_filter_le (E i) (List.range k);rwa[N7]at this
def uJ{E:Nat->Nat->Bool}{i k j:Nat}:j∈dp E i k<->j<k/\E i j=true:=by simp[dp]
def SxU(E:Nat->Nat->Bool)(n i:Nat)(xs:List Nat):Prop:=∃k,k<n/\E i k=true/\xs=dp E i k++[k]
def uK(v)(i:Nat)(w)(hv:∃A n c,v=.slice A n c):Calls prog 77 #[v,.int .i64 (i:Int)] w fun e w'=>e=.returned (.func (.func 129) #[] #[.pointer w.heap.size,.pointer (some ⟨w.heap.size+1,0,none⟩)])/\(w.alloc (.cells #[v] 147)).alloc (.cells #[.int .i64 (i:Int)] 3)=w':=by
 have ab:=mF;obtain⟨A,n,c,rfl⟩:=hv;go_enter func77,ntmps77;go_wp2;go_ret;exact⟨rfl,rfl⟩
def AS(nn g n i B1 B2:Nat)(E:Nat->Nat->Bool)(T)(w)(Kp:World->World->Prop)(ag:∀V W l T,Kp V W->Blk V (g+1+i) l T->Blk W (g+1+i) l T)(hi:i<n)(hn:n<=1048576) :uI Fence.wide nn prog 129 #[.pointer B1,.pointer B2] (fun x:Nat=>#[.int .i64 (x:Int)]) T (fun xs=>xs=dp E i n) (SxU E n i) (fun _ _=>False) 1048577 w (fun V=>Blk V B1 [.slice g n n] 147/\Blk V B2 [.int .i64 (i:Int)] 3/\Blk V g (dg g n n) 220/\Blk V (g+1+i) (bZ E n i) 4) Kp:=by
 rintro l J Jx W hW ⟨al,an,hg,hr⟩ hJ hY h0;have ax:=nT;have HY:=MY hY;have ad:=MY ag;have q1:=(hg.at i _ (kB hi)).1;rw[if_pos hi]at q1;have q2:=(al.at 0 _ rfl).1;have q3:=(an.at 0 _ rfl).1;have J0:=MY h0;have R0:=MY hr;obtain⟨aA,ba⟩:=ix (k:=i) (n:=n);refine callsIn_of_wp func129 rfl trivial ?_ rfl;simp only[ntmps129,NV,M6,ND,Nat.reduceAdd,Nat.reduceSub,NZ,N0,N1,N2,M9,MZ];refine wpIn_wide.2 ?_;go_wp2_with fail;go_loopw [11] (fun z V=>∃k:Nat,k<=n/\z=.int .i64 k/\Hid (J (dp E i k) V)/\Hid (Blk V (g+1+i) (bZ E n i) 4)) (fun z _=>n-(intOf z).toNat)
 case atStart=>exact⟨0,Nu _,rfl,J0.out,R0.out⟩
 case round=>
  obtain⟨k,hk,rfl,HJ,HB⟩:=hrel;by_cases ab:k<n
  case neg=>
   obtain rfl:n=k:=by omega
   go_wp2_with fail;go_end0;exact Or.inl ⟨⟨_,rfl⟩,Or.inl ⟨_,rfl,HJ.out⟩⟩
  have q4:=(HB.at k _ (lR ab)).1;obtain⟨bb,bc⟩:=ix (k:=k) (n:=n)
  cases he:E i k with
  |false=>
   rw[he]at q4
   have ac:Hid (J (dp E i (k+1)) wr):=by show J _ _;rw[AO he];exact HJ.out
   go_wp2
   go_roundw
   case rel=>exact⟨k+1,by omega,by go_num,ac.out,HB.out⟩
   case measure=>simp[intOf];omega
  |true=>
   rw[he]at q4
   have HE:=MY he
   obtain⟨fn,tmps,assign,body,hy,hR⟩:=HY.out (dp E i k) k wr HJ.out (by have:=AQ E i k;omega)
   change (Instr.yield l #[.int .i64 (k:Int)]).run _ wr=_ at hy
   refine(wpIn_wide (n:=nn)).1 ?_
   gi_wp2
   refine⟨fun e=>by simp[Fence.wide]at e,hR.mono ?_⟩
   rintro e W3 (⟨rfl,ar,bd,ao,_⟩|⟨rfl,av⟩)
   ·have J3:Hid (J (dp E i (k+1)) W3):=by show J _ _;rw[AN HE.out];exact ar
    have B3:=MY (ad.out _ _ _ _ ao HB.out)
    gi_wp2_with fail
    go_wp2_with fail
    refine⟨⟨k+1,by omega,by go_num,J3.out,B3.out⟩,?_⟩
    simp[intOf];omega
   ·have JX:=MY av
    gi_wp2_with fail
    go_wp2_with fail
    refine bodyPost_ret (v:= .tuple #[]) (by simp[results,results129]) rfl ?_
    exact Or.inl ⟨⟨_,rfl⟩,Or.inr ⟨_,⟨k,ab,HE.out,rfl⟩,JX.out⟩⟩
end
section
open Go.ChangeMaps (setBlock)
def gy(e:TypeId)(W:World)(B:Nat)(v:Value)(q:List Nat):Prop:=∃g o c l,B<=g/\v=.slice (some ⟨g,o,none⟩) q.length c/\q.length<=c/\Blk W g l e/\o+c<=l.length/\∀(j x:Nat),q[j]? = some x->l[o+j]? = some (.int .i64 (x:Int))
def gy.below{e}{W W'}{B:Nat}{v}{q:List Nat}(h:gy e W B v q)(hb:eB W W'):gy e W' B v q:=by
 obtain⟨g,o,c,l,h1,h2,h3,h4,h5⟩:=h;exact⟨g,o,c,l,h1,h2,h3,h4.below hb h4.lt,h5⟩
def gy.block{e}{W}{B m:Nat}{v}{q:List Nat}(h:gy e W B v q)(o:Obj)(hm:∃x y,W.heap[m]? = some (.map x y)):gy e (setBlock W m o) B v q:=by
 obtain⟨g,o',c,l,h1,h2,h3,h4,h5⟩:=h;refine⟨g,o',c,l,h1,h2,h3,(kG _ (fun e=>?_)).trans h4,h5⟩;obtain⟨x,y,hm⟩:=hm;subst e;have:=hm.symm.trans h4
 cases this
def Lr{P}{ops}{rest}{o:Oper}{a:Act}{w}{Q}{t e}{bytes:Nat}(hI:bE P t e 1 bytes)(ax:o.guard=none)(s x)(ho:o.op=.call {callee:= .builtin .append,args:=#[s,x],argTypes:=#[t,t]})(B:Nat)(v)(q:List Nat)(hs:a.eval s=v)(hq:gy e w B v q)(eb c y:Nat)(hx:a.eval x=.slice eb 1 c)(hb:Blk w eb [.int .i64 (y:Int)] e)(hl:q.length<=16777216)(hB:B<=w.heap.size)(h:∀v' w' row,gy e w' B v' (q++[y])->w.grownBy w' row->(∀r,row=some r->B<=r/\∃cs fr,w.heap[r]? = some (.cells cs e fr))->wpList P ops Q rest (a.put o.dst v') w'):wpList P ops Q (o::rest) a w:=by
 obtain⟨g,o',c',l,ao,rfl,bg,hk,bc,an⟩:=hq;obtain⟨i,z,ht,hi,hz,ab,av,bd,be,ac⟩:=hI;have ar:(q.length+1)*bytes<=140737488355328:=Nv (Nat.mul_le_mul (show q.length+1<=16777217 by omega) ac) (by omega);refine wpList_append_arg w ax s x t ho e i z 1 bytes ht hi hz ab av bd (by omega) g o' q.length c' (q.map fun j:Nat=>Value.int .i64 (j:Int)) hs (by simp) ?_ ⟨eb,0,none⟩ 1 c [.int .i64 (y:Int)] hx rfl ?_ (by simp[Value.oneCell']) ?_ (by unfold maxLen;omega) ar ?_ ?_
 ·intro j u hj;rw[Ou]at hj
  cases al:q[j]? with
  |none=>rw[al]at hj;cases hj
  |some x=>rw[al]at hj;cases hj;exact(hk.at _ _ (an j x al)).1
 ·intro j u hj
  cases j with
  |zero=>cases hj;exact(hb.at 0 _ rfl).1
  |succ j=>simp at hj
 ·intro hr j hj;have aA:j=0:=by simp at hj;exact hj
  subst aA;have bb:o'+q.length*1+0<l.length:=by omega
  have:=hk.at _ _ (Nx bb);exact⟨by rw[this.1];rfl,this.2⟩
 ·intro hr;refine h _ _ (some g) ⟨g,o',c',l.set (o'+q.length*1) (.int .i64 (y:Int)),ao,by simp,by simpa using hr,hk.set _ _,by simpa using bc,fun j x hj=>?_⟩ (gh w g _ _) (fun r e'=>by cases e';exact⟨ao,_,_,hk⟩);by_cases ba:j<q.length
  ·rw[N4 ba]at hj;rw[Oo (by omega)];exact an j x hj
  ·have ad:=(NQ.1 hj).1;have:j=q.length:=by simp at ad;omega
   subst this;rw[N5 (No _)]at hj;simp at hj;subst hj;rw[show o'+q.length*1=o'+q.length by omega,On (by omega)]
 ·intro hr v' w' ag hg;refine h v' w' none ?_ hg (fun r e'=>by cases e');rcases ag.2 with⟨_,h0⟩|⟨g',cap,cur,rfl,h1,h2,h3,h4,h5,h6⟩
  ·omega
  ·refine⟨g',0,cap,cur.toList,Nv hB h1,by simp,by simpa using h3,?_,by simp[h5],fun j x hj=>?_⟩
   ·show w'.heap[g']? = some (.cells cur.toList.toArray e (0,0));simpa using h2
   ·have ad:=(NQ.1 hj).1;have e6:(cur.toList.take ((q.length+1)*1))[j]? = some (.int .i64 (x:Int)):=by
     rw[h6];have:((q++[y]).map fun j:Nat=>Value.int .i64 (j:Int))[j]? = some (.int .i64 (x:Int)):=by rw[Ou,hj];rfl
     simpa using this
    rw[NR,if_pos (by simp at ad;omega)]at e6;rwa[Nm]
structure KvN(kv:List (Value×Value))(D:Nat->Option Nat):Prop where
 key:∀p∈kv,KdI p.1
 get:∀i:Nat,aD kv (.int .i64 (i:Int))=(D i).map fun d=> .int .i64 (d:Int)
def KvN.upd{kv:List (Value×Value)}{D:Nat->Option Nat}(h:KvN kv D)(i d:Nat):KvN (aF kv (.int .i64 (i:Int)) (.int .i64 (d:Int))) (fun j=>if j=i then some d else D j):=by
 refine⟨?_,fun j=>?_⟩
 ·intro p hp;rcases(mem_upd kv _ _ p.1).1 (List.mem_map.2 ⟨p,hp,rfl⟩)with hq|hq
  ·obtain⟨q,hq,e⟩:=List.mem_map.1 hq;rw[<-e];exact h.key q hq
  ·exact⟨_,hq⟩
 ·rw[zn];by_cases e:j=i
  ·subst e;simp
  ·rw[if_neg (fun h=>by injection h with _ h;exact e (by omega)),h.get,if_neg e]
structure DiI(E:Nat->Nat->Bool)(n t:Nat)(D:Nat->Option Nat)(ks q:List Nat):Prop where
 root:D t=some 0
 near:∀j,j∈ks->dW E n t j/\t<=j/\j<n
 keys:∀j,j∈ks<->(D j).isSome=true
 nd:ks.Nodup
 qk:∀j∈q,j∈ks
 small:∀j d,D j=some d->d<ks.length
 done:∀k,k∈ks->¬k∈q->∀i,t<=i->i<n->E i k=true->i∈ks
def Lt{l:List Nat}{n:Nat}(h:l.Nodup)(hl:∀x∈l,x<n):l.length<=n:=by
 refine Decidable.byContradiction fun hc=>?_;obtain⟨a,b,ad,hb,e⟩:=tG n (fun i=>l.getD i 0) (fun i hi=>by
  show l.getD i 0<n;have ac:i<l.length:=by omega
  rw[Oq,Nx ac];exact hl _ (OG _))
 have ab:a<l.length:=by omega
 have hb':b<l.length:=by omega
 have e':l[a]=l[b]:=by
  have:l.getD a 0=l.getD b 0:=e;rwa[Oq,Oq,Nx ab,Nx hb']at this
 have:=(List.getElem_inj (h₀:=ab) (h₁:=hb') h).1 e';omega
section
variable {E:Nat->Nat->Bool} {n t:Nat} {D:Nat->Option Nat} {ks q:List Nat}
def DiI.len(h:DiI E n t D ks q):ks.length<=n:=Lt h.nd fun x hx=>(h.near x hx).2.2
def DiI.init(ht:t<n):DiI E n t (fun j=>if j=t then some 0 else none) [t] [t]:=
 ⟨by simp,fun j hj=>by rw[Oi]at hj;subst hj;exact⟨.inl ⟨rfl,ht⟩,No _,ht⟩,fun j=>by by_cases e:j=t <;> simp[e],by simp,fun j hj=>hj,fun j d h=>by by_cases e:j=t <;> simp[e]at h;subst h;simp,fun k h1 h2=>absurd h1 h2⟩
def DiI.found(h:DiI E n t D ks q){i k d:Nat}(hk:k∈q)(hd:D k=some d)(hi:t<=i)(ac:i<n)(he:E i k=true)(hn:D i=none):DiI E n t (fun j=>if j=i then some (d+1)else D j) (ks++[i]) (q++[i]):=by
 have ad:¬i∈ks:=fun hc=>by have:=(h.keys i).1 hc;rw[hn]at this;cases this
 have ag:¬t=i:=fun e=>by rw[<-e,h.root]at hn;cases hn
 refine⟨by simp[ag,h.root],fun j hj=>?_,fun j=>?_,?_,fun j hj=>?_,fun j d' ab=>?_,fun k' h1 h2 i' a1 a2 a3=>?_⟩
 ·rcases Of.1 hj with hj|hj
  ·exact h.near j hj
  ·rw[Oi]at hj;subst hj;exact⟨Hg (h.near k (h.qk k hk)).1 hi ac he,hi,ac⟩
 ·by_cases e:j=i
  ·subst e;simp
  ·simp[e,h.keys j]
 ·rw[List.nodup_append];exact⟨h.nd,by simp,fun a ha b hb e=>by rw[Oi]at hb;subst hb;subst e;exact ad ha⟩
 ·rcases Of.1 hj with hj|hj
  ·exact List.mem_append_left _ (h.qk j hj)
  ·exact List.mem_append_right _ hj
 ·rw[Oe,OP];by_cases e:j=i
  ·subst e;simp at ab;have:=h.small k d hd;omega
  ·simp[e]at ab;have:=h.small j d' ab;omega
 ·rcases Of.1 h1 with h1|h1
  ·exact List.mem_append_left _ (h.done k' h1 (fun hc=>h2 (List.mem_append_left _ hc)) i' a1 a2 a3)
  ·exact absurd (List.mem_append_right _ h1) h2
def DiI.next{k:Nat}(h:DiI E n t D ks (k::q))(hd:∀i,t<=i->i<n->E i k=true->i∈ks):DiI E n t D ks q:=
 ⟨h.root,h.near,h.keys,h.nd,fun j hj=>h.qk j (List.mem_cons_of_mem _ hj),h.small,fun k' h1 h2=>by
  by_cases e:k'=k
  ·subst e;exact hd
  ·exact h.done k' h1 (fun hc=>by rcases Og.1 hc with hc|hc;exact e hc;exact h2 hc)⟩
def DiI.fin(h:DiI E n t D ks [])(ht:t<n)(j:Nat):(D j).isSome=true<->dW E n t j:=by
 rw[<-h.keys];exact Hf (K:=fun j=>j∈ks) ht ((h.keys t).2 (by rw[h.root];rfl)) (fun j hj=>(h.near j hj).1) (fun k i hk h1 h2 h3=>h.done k hk (by simp) i h1 h2 h3) j
end
structure DiS(w:World)(E:Nat->Nat->Bool)(n t g:Nat)(kv:List (Value×Value))(D:Nat->Option Nat)(ks q:List Nat)(v:Value)(W:World):Prop where
 mp:aK W w.heap.size kv
 kn:KvN kv D
 qu:gy 3 W w.heap.size v q
 di:DiI E n t D ks q
 bg:Blk W g (dg g n n) 220
 rw:∀j,j<n->Blk W (g+1+j) (bZ E n j) 4
 bl:eB w W
 ln:kv.length=ks.length
 ql:q.length<=ks.length
structure Lu(E:Nat->Nat->Bool)(n t:Nat)(w:World)(e:Ending)(w':World):Prop where
 bl:eB w w'
 ex:∃kv D,e=.returned (.map (some w.heap.size))/\aK w' w.heap.size kv/\KvN kv D/\(∀j,(D j).isSome=true<->dW E n t j)/\∀j d,D j=some d->d<n
section
variable {w W W':World} {E:Nat->Nat->Bool} {n t g:Nat} {kv:List (Value×Value)} {D:Nat->Option Nat} {ks q:List Nat} {v:Value}
def DiS.gr(h:DiS w E n t g kv D ks q v W)(hg:∀b,b=g\/(∃j,j<n/\b=g+1+j)->W'.heap[b]? = W.heap[b]?):Blk W' g (dg g n n) 220/\∀j,j<n->Blk W' (g+1+j) (bZ E n j) 4:=
 ⟨(hg g (.inl rfl)).trans h.bg,fun j hj=>(hg _ (.inr ⟨j,hj,rfl⟩)).trans (h.rw j hj)⟩
def DiS.alloc(h:DiS w E n t g kv D ks q v W)(o:Obj):DiS w E n t g kv D ks q v (W.alloc o):=
 ⟨h.mp.below (ak W o) h.mp.lt,h.kn,h.qu.below (ak W o),h.di,h.bg.alloc o,fun j hj=>(h.rw j hj).alloc o,h.bl.alloc h.bl.size o,h.ln,h.ql⟩
def DiS.drew(h:DiS w E n t g kv D ks q v W):DiS w E n t g kv D ks q v W.drew:=
 ⟨h.mp,h.kn,by obtain⟨g,o,c,l,a1,a2,a3,a4,a5⟩:=h.qu;exact⟨g,o,c,l,a1,a2,a3,a4.drew,a5⟩,h.di,h.bg.drew,fun j hj=>(h.rw j hj).drew,h.bl.drew,h.ln,h.ql⟩
def Lv{kv:List (Value×Value)}{k v}(h:aD kv k=none):(aF kv k v).length=kv.length+1:=by
 induction kv with
 |nil=>rfl
 |cons p l ih=>
  simp only[aD]at h
  split at h
  ·cases h
  ·rename_i ab
   simp only[aF,if_neg ab,M6,ih h]
def DiS.found{i k d:Nat}{v'}{W2 W3}{row:Option Nat}(h:DiS w E n t g kv D ks q v W)(hk:k∈q)(hd:D k=some d)(hi:t<=i)(an:i<n)(he:E i k=true)(hn:D i=none)(ac:(setBlock W w.heap.size (cB (aF kv (.int .i64 (i:Int)) (.int .i64 ((d+1:Nat):Int))))).alloc (.cells #[.int .i64 (i:Int)] 3)=W2)(hq:gy 3 W3 w.heap.size v' (q++[i]))(hg:W2.grownBy W3 row)(hr:∀r,row=some r->w.heap.size<=r/\∃cs fr,W2.heap[r]? = some (.cells cs 3 fr)):DiS w E n t g (aF kv (.int .i64 (i:Int)) (.int .i64 ((d+1:Nat):Int))) (fun j=>if j=i then some (d+1)else D j) (ks++[i]) (q++[i]) v' W3:=by
 have hm:∃x y,W.heap[w.heap.size]? = some (.map x y):=⟨_,_,h.mp⟩
 have ag:∀{b:Nat} {l:List Value} {T:TypeId},Blk W b l T->Blk W2 b l T:=fun{b l T} hb=>by
  rw[<-ac];refine Blk.alloc ((kG _ (fun e=>?_)).trans hb) _;obtain⟨x,y,hm⟩:=hm;subst e;have:=hm.symm.trans hb
  cases this
 have al:∀{b:Nat} {l:List Value} {T:TypeId},T≠3->Blk W2 b l T->Blk W3 b l T:=fun{b l T} hT hb=>hb.grown hg (fun e=>by
  obtain⟨_,cs,fr,hc⟩:=hr b e.symm;have:=hc.symm.trans hb;injection this with this;injection this with _ this _;exact hT this.symm)
 have ab:aK W2 w.heap.size (aF kv (.int .i64 (i:Int)) (.int .i64 ((d+1:Nat):Int))):=by
  rw[<-ac];have h1:=aK.set h.mp.lt (aF kv (.int .i64 (i:Int)) (.int .i64 ((d+1:Nat):Int)));exact h1.below (ak _ _) h1.lt
 have ad:eB w W2:=by
  rw[<-ac];have:=Below.setB h.bl (No w.heap.size) (cB (aF kv (.int .i64 (i:Int)) (.int .i64 ((d+1:Nat):Int))));exact this.alloc this.size _
 refine⟨?_,h.kn.upd i (d+1),hq,h.di.found hk hd hi an he hn,al (by decide) (ag h.bg),fun j hj=>al (by decide) (ag (h.rw j hj)),ad.grown hg ad.size (fun r e=>(hr r e).1),?_,by have:=h.ql;simp;omega⟩
 ·refine(hg.block _ ab.lt (fun e=>?_)).trans ab;obtain⟨_,cs,fr,hc⟩:=hr _ e.symm;have:W2.heap[w.heap.size]? = some (cB _):=ab;rw[hc]at this
  cases this
 ·rw[Lv (by rw[h.kn.get,hn];rfl),h.ln,Oe];rfl
def qY(W:World)(b:Nat):Nat:=match W.heap[b]? with
 |some (.map es _)=>es.size
 |_=>0
def Lw:Value->Nat
 |.slice _ n _=>n
 |_=>0
def AT{W}{b:Nat}{kv:List (Value×Value)}(h:aK W b kv):qY W b=kv.length:=by
 unfold qY;have h':W.heap[b]? = some (.map (aM kv 0).toArray kv.length):=h;rw[h'];simp[Iq]
end
def Lx(g n t:Nat)(E:Nat->Nat->Bool)(w)(hg:Blk w g (dg g n n) 220)(hr:∀j,j<n->Blk w (g+1+j) (bZ E n j) 4)(ht:t<n)(hn:n<=1048576) :Calls prog 210 #[.slice g n n,.int .i64 (t:Int)] w (Lu E n t w):=by
 have ei:∀W,(Instr.makeMap 325 none).run prog W=.ok (.map (some W.heap.size)) (W.alloc (.map #[] 0)):=fun _=>rfl;have cm:=MY (aK.new w);have HT:=MY ht;have eb:=hg.lt;obtain⟨W1,bu⟩:=nm (setBlock (w.alloc (.map #[] 0)) w.heap.size (cB (aF [] (.int .i64 (t:Int)) (.int .i64 0))));have ca:W1.heap.size=w.heap.size+1:=by rw[<-bu,qF];simp
 have D0:Hid (∃kv,aK W1 w.heap.size kv/\kv.length=1/\KvN kv (fun j=>if j=t then some 0 else none)/\eB w W1/\Blk W1 g (dg g n n) 220/\∀j,j<n->Blk W1 (g+1+j) (bZ E n j) 4):=by
  show ∃kv,_;rw[<-bu];refine⟨_,aK.set (by simp) _,rfl,?_,?_,?_,fun j hj=>?_⟩
  ·have:=(⟨fun _ h=>by(cases h),fun i=>rfl⟩:KvN [] (fun _=>none)).upd t 0;exact this
  ·exact Below.setB ((NB w.heap.size w).alloc (No _) _) (No _) _
  ·exact(kG _ (by omega)).trans (hg.alloc _)
  ·exact(kG _ (by have:=(hr j hj).lt;omega)).trans ((hr j hj).alloc _)
 go_enter func210,ntmps210;go_wp2_with (refine tS (fj _ _ underlying3) underlying325 rfl (.tmp 10) (.tmp 11) (.const (.int .i64 0)) (.inr rfl) w.heap.size (.int .i64 (t:Int)) (.int .i64 0) rfl rfl rfl [] cm.out (fun _ h=>by cases h) ⟨_,rfl⟩ ?_);obtain⟨cb,h1,cx,h2,h3,h4,h5⟩:=D0.out;have cw:Hid (cb.length=[t].length):=cx;have S0:Hid (DiS w E n t g cb (fun j=>if j=t then some 0 else none) [t] [t] (.slice (some ⟨w.heap.size+1,0,none⟩) 1 1) (W1.alloc (.cells #[.int .i64 (t:Int)] 3))):=by
  refine⟨h1.below (ak _ _) h1.lt,h2,⟨w.heap.size+1,0,1,[.int .i64 (t:Int)],by omega,rfl,No _,by rw[<-ca];exact Blk.new W1 _ _,by simp,fun j x hj=>?_⟩,DiI.init HT.out,h4.alloc _,fun j hj=>(h5 j hj).alloc _,h3.alloc h3.size _,cw.out,by simp⟩
  cases j with
  |zero=>simp at hj;subst hj;rfl
  |succ j=>simp at hj
 have dv:=MY ca;go_wp2_with fail;go_loopw [6] (fun v W=>∃(kv:List (Value×Value)) (D:Nat->Option Nat) (ks q:List Nat),Hid (DiS w E n t g kv D ks q v W)) (fun v W=>2*(n-qY W w.heap.size)+Lw v)
 case atStart=>exact⟨_,_,_,_,S0.out⟩
 case round=>
  obtain⟨kv,D,ks,q,S⟩:=hrel;obtain⟨qg,qo,qc,ql,bw,rfl,bm,bb,cR,bn⟩:=S.qu;have ds:=MY bn;have dr:=MY bb;obtain⟨nq,ba⟩:=nm q.length;have co:=MY ba;rw[ba]at bm S⊢;have dn:=MY bm
  cases q with
  |nil=>
   obtain rfl:0=nq:=ba
   have HF:=MY (fun j=>S.di.fin HT.out j)
   have cu:Hid (∀j d,D j=some d->d<n):=fun j d hd=>Nf (S.di.small j d hd) S.di.len
   go_wp2_with fail
   refine bodyPost_ret (v:= .map (some w.heap.size)) (by simp[results,results210,go_sem]) rfl ⟨S.bl,kv,D,rfl,S.mp,S.kn,HF.out,cu.out⟩
  |cons k q'=>
  have cN:0<nq:=by rw[<-ba];simp
  have ax:k∈ks:=S.di.qk k (by simp);have cz:k<n:=(S.di.near k ax).2.2;have el:nq<=1048576:=by have h1:=S.ql;have h2:=S.di.len;rw[ba]at h1;omega
  have ci:=MY ax;have dl:Hid (ks.length<=n):=S.di.len;have cl:=MY S.ln;go_wp2_with fail;go_loopw [6,7] (fun v z W=>∃(i:Nat) (ab:List (Value×Value)) (D':Nat->Option Nat) (ac q1:List Nat),z=.int .i64 i/\t<=i/\i<=n/\Hid (DiS w E n t g ab D' ac (k::q1) v W)/\Hid (∀j,t<=j->j<i->E j k=true->j∈ac)/\Hid (q1.length+1+ks.length=nq+ac.length/\ks.length<=ac.length)) (fun _ z _=>n-(intOf z).toNat)
  case atStart=>exact⟨t,kv,D,ks,q',rfl,No _,NS HT.out,S.out,fun j h1 h2=>by omega,⟨by rw[<-co.out];simp,No _⟩⟩
  case round=>
   obtain⟨i,ab,D',ac,q1,rfl,db,ee,S1,bd,be⟩:=hrel;obtain⟨bc,an,av,dd,bw,rfl,bm,bb,cR,bn⟩:=S1.qu;obtain⟨al,ad⟩:=nm ((k::q1).length);have bp:=MY ad;rw[ad]at bm S1⊢;have qk:=(bb.at _ _ (bn 0 k rfl)).1;rw[Na]at qk;have cD:0<al:=by rw[<-ad];simp
   have cP:(0:Int)<(al:Int):=by omega
   by_cases aA:i<n
   case neg=>
    obtain rfl:n=i:=by omega
    have HN:=MY (S1.di.next (fun j h1 h2 h3=>bd.out j h1 h2 h3));have cr:Hid (∀(A' c':Nat),(A'=an+1\/A'=an/\c'=0)->c'+1=av->gy 3 wr w.heap.size (.slice (some ⟨bc,A',none⟩) (al-1) c') q1):=by
     intro A' c' hA hc;have hl:q1.length+1=al:=by rw[<-ad];simp
     refine⟨bc,A',c',dd,bw,by rw[<-hl];rfl,by omega,bb,by omega,fun j x hj=>?_⟩;rcases hA with rfl|⟨_,h0⟩
     ·have:=bn (j+1) x (by simpa using hj);rwa[show an+(j+1)=an+1+j by omega]at this
     ·have:=(NQ.1 hj).1;omega
    have dy:1<=av:=by omega
    have hv:∀A',(A'=an+1\/A'=an/\av-1=0)->DiS w E n t g ab D' ac q1 (.slice (some ⟨bc,A',none⟩) (al-1) (av-1)) wr:=fun A' h=>⟨S1.mp,S1.kn,cr.out A' (av-1) h (by omega),HN.out,S1.bg,S1.rw,S1.bl,S1.ln,by have:=S1.ql;simp at this;omega⟩
    have bt:=MY hv;have cn:Hid (2*(n-qY wr w.heap.size)+(al-1)<2*(n-ks.length)+nq):=by
     have h1:=be.out;have h2:=AT S1.mp;have h3:=S1.ln;have h4:=S1.di.len;have h5:q1.length+1=al:=by rw[<-ad];simp
     show _<_;omega
    go_wp2_with fail;refine⟨⟨ab,D',ac,q1,?_⟩,?_⟩
    ·by_cases bx:av=1
     ·rw[if_pos bx];exact bt.out an (.inr ⟨rfl,by omega⟩)
     ·rw[if_neg bx];exact bt.out (an+1) (.inl rfl)
    ·rw[AT S.mp,cl.out];exact cn.out
   have cq:Hid (al<=1048577):=by
    have h1:=S1.ql;have h2:=S1.di.len;show _<=_;rw[ad]at h1;omega
   have cs:=MY S1.qu;obtain⟨ec,ed⟩:=ix (k:=i) (n:=n);obtain⟨ef,eg⟩:=ix (k:=k) (n:=n);have r1:=(S1.bg.at i _ (kB aA)).1;rw[if_pos aA]at r1;have r2:=((S1.rw i aA).at k _ (lR cz)).1;have l1:=S1.bg.lt;have l2:=(S1.rw i aA).lt;have l3:=bb.lt;have cC:=nT;have bk:=S1.kn.get i
   cases bi:D' i with
   |some d=>
    rw[bi]at bk
    have HG:Hid (Value.tuple #[.int .i64 (d:Int),.bool true]=if true then .tuple #[(aD ab (.int .i64 (i:Int))).getD (.int .i64 0),.bool (aD ab (.int .i64 (i:Int))).isSome]else(aD ab (.int .i64 (i:Int))).getD (.int .i64 0)):=by
     show _=_;rw[bk];rfl
    have ag:Hid (∀j,t<=j->j<i+1->E j k=true->j∈ac):=fun j h1 h2 h3=>by
     by_cases e:j=i
     ·subst e;exact(S1.di.keys j).2 (by rw[bi];rfl)
     ·exact bd.out j h1 (by omega) h3
    go_wp2_with (refine lZ (fj _ _ underlying3) underlying325 rfl (.tmp 28) (.tmp 29) true rfl w.heap.size (.int .i64 (i:Int)) rfl rfl ab S1.mp S1.kn.key ⟨_,rfl⟩ (z:= .int .i64 0) (fun _=>rfl) _ HG.out ?_)
    refine aJ (S:=fun w'=>∀b o,b<wr.heap.size->w'.cell? ⟨b,o,none⟩=wr.cell? ⟨b,o,none⟩) [0,1,2,3,4,5,6,7,8,9,10,11,12] (fun b o _=>rfl) (fun ar=>?_)
    repeat refine ay ?_
    refine aj ?_
    have ao:=MY (S1.drew)
    go_wp2_with fail
    refine⟨⟨i+1,ab,D',ac,q1,by go_num,by omega,by omega,ao.out,ag.out,be.out⟩,?_⟩
    simp[intOf];omega
   |none=>
    rw[bi]at bk
    have HG:Hid (Value.tuple #[.int .i64 0,.bool false]=if true then .tuple #[(aD ab (.int .i64 (i:Int))).getD (.int .i64 0),.bool (aD ab (.int .i64 (i:Int))).isSome]else(aD ab (.int .i64 (i:Int))).getD (.int .i64 0)):=by
     show _=_;rw[bk];rfl
    have cd:=MY bi
    cases he:E i k with
    |false=>
     rw[he]at r2
     have ag:Hid (∀j,t<=j->j<i+1->E j k=true->j∈ac):=fun j h1 h2 h3=>by
      by_cases e:j=i
      ·subst e;rw[he]at h3;cases h3
      ·exact bd.out j h1 (by omega) h3
     go_wp2_with (refine lZ (fj _ _ underlying3) underlying325 rfl (.tmp 28) (.tmp 29) true rfl w.heap.size (.int .i64 (i:Int)) rfl rfl ab S1.mp S1.kn.key ⟨_,rfl⟩ (z:= .int .i64 0) (fun _=>rfl) _ HG.out ?_)
     refine aJ (S:=fun w'=>∀b o,b<wr.heap.size->w'.cell? ⟨b,o,none⟩=wr.cell? ⟨b,o,none⟩) [0,1,2,3,4,5,6,7,8,9,10,11,12] (fun b o _=>rfl) (fun ar=>?_)
     repeat refine ay ?_
     refine aj ?_
     have ao:=MY (S1.drew)
     go_wp2_with fail
     refine⟨⟨i+1,ab,D',ac,q1,by go_num,by omega,by omega,ao.out,ag.out,be.out⟩,?_⟩
     simp[intOf];omega
    |true=>
     rw[he]at r2
     obtain⟨dk,bs⟩:=Option.isSome_iff_exists.1 ((S1.di.keys k).1 (S1.di.qk k (by simp)))
     have bv:=S1.kn.get k
     rw[bs]at bv
     have ch:Hid (Value.int .i64 (dk:Int)=if false then .tuple #[(aD ab (.int .i64 (k:Int))).getD (.int .i64 0),.bool (aD ab (.int .i64 (k:Int))).isSome]else(aD ab (.int .i64 (k:Int))).getD (.int .i64 0)):=by
      show _=_;rw[bv];rfl
     have dT:(0:Int)<=(dk:Int):=by omega
     have ea:(dk:Int)<=1048576:=by
      have h1:=S1.di.small k dk bs;have h2:=S1.di.len;omega
     have ag:Hid (∀j,t<=j->j<i+1->E j k=true->j∈ac++[i]):=fun j h1 h2 h3=>by
      by_cases e:j=i
      ·subst e;simp
      ·exact List.mem_append_left _ (bd.out j h1 (by omega) h3)
     have bo:Hid ((q1++[i]).length+1+ks.length=nq+(ac++[i]).length/\ks.length<=(ac++[i]).length):=by
      have:=be.out;simp only[Hid,Oe,OP];omega
     have cf:=MY bs
     have HE:=MY he
     obtain⟨W2,bh⟩:=nm ((setBlock wr.drew w.heap.size (cB (aF ab (.int .i64 (i:Int)) (.int .i64 ((dk:Int)+1))))).alloc (.cells #[.int .i64 (i:Int)] 3))
     have br:(setBlock wr.drew w.heap.size (cB (aF ab (.int .i64 (i:Int)) (.int .i64 ((dk:Int)+1))))).heap.size=wr.heap.size:=qF _ _ _
     have cv:Hid ((setBlock wr.drew w.heap.size (cB (aF ab (.int .i64 (i:Int)) (.int .i64 ((dk+1:Nat):Int))))).alloc (.cells #[.int .i64 (i:Int)] 3)=W2):=bh
     have X2:Hid (Blk W2 wr.heap.size [.int .i64 (i:Int)] 3):=by
      rw[<-bh,<-br];exact Blk.new _ _ _
     have Q2:Hid (gy 3 W2 w.heap.size (.slice (some ⟨bc,an,none⟩) al av) (k::q1)):=by
      rw[<-bh];exact(S1.drew.qu.block _ ⟨_,_,S1.mp⟩).below (ak _ _)
     have cc:Hid (w.heap.size<=W2.heap.size):=by
      have:=S1.bl.size;rw[<-bh];simp only[Hid,NU,br];omega
     have df:=MY br
     have cp:Hid ((k::q1).length<=16777216):=by have:=cq.out;rw[<-bp.out]at this;show _<=_;omega
     go_wp2_with (refine lZ (fj _ _ underlying3) underlying325 rfl (.tmp 28) (.tmp 29) true rfl w.heap.size (.int .i64 (i:Int)) rfl rfl ab S1.mp S1.kn.key ⟨_,rfl⟩ (z:= .int .i64 0) (fun _=>rfl) _ HG.out ?_)
     refine aJ (S:=fun w'=>∀b o,b<wr.heap.size->w'.cell? ⟨b,o,none⟩=wr.cell? ⟨b,o,none⟩) [0,1,2,3,4,5,6,7,8,9,10,11,12] (fun b o _=>rfl) (fun ar=>?_)
     repeat refine ay ?_
     refine aj ?_
     have ao:=MY (S1.drew)
     go_wp2_with (first|(refine lZ (fj _ _ underlying3) underlying325 rfl (.tmp 48) (.tmp 51) false rfl w.heap.size (.int .i64 (k:Int)) rfl rfl ab ao.mp ao.kn.key ⟨_,rfl⟩ (z:= .int .i64 0) (fun _=>rfl) _ ch.out ?_)|(refine tS (fj _ _ underlying3) underlying325 rfl (.tmp 46) (.tmp 47) (.tmp 53) (.inl rfl) w.heap.size (.int .i64 (i:Int)) (.int .i64 ((dk:Int)+1)) rfl rfl rfl ab ao.mp ao.kn.key ⟨_,rfl⟩ ?_)|(at_builtin;refine Lr jG rfl (.tmp 54) (.tmp 56) rfl w.heap.size (.slice (some ⟨bc,an,none⟩) al av) (k::q1) rfl Q2.out wr.heap.size 1 i rfl X2.out cp.out cc.out (fun v' w' row hq hg hr=>?_);have S2:=MY (ao.found (List.mem_cons_self ..) cf.out db aA HE.out cd.out cv.out hq hg hr);clear hq hg hr))
     refine⟨⟨i+1,_,_,ac++[i],q1++[i],by go_num,by omega,by omega,S2.out,ag.out,bo.out⟩,?_⟩
     simp[intOf];omega
end
section
attribute [local go_sem] Oper.semAt_some
def uL(W:World)(row:Option Nat):W.grownBy W row:=⟨rfl,rfl,rfl,No _,fun _ _ _=>rfl⟩
def qZ(D:Nat):Deferred:={target:= .collected D,args:=#[]}
def ce(N:Nat):List Nat->World->Prop
 |[],_=>True
 |D::l,W=>N<=D/\W.heap[D]? = some (.deferred (some []))/\¬D∈l/\ce N l W
def ce.lt{N:Nat}{W}:∀{l:List Nat},ce N l W->∀D∈l,N<=D/\W.heap[D]? = some (.deferred (some []))
 |D::l,h,D',hD=>by
  rcases Og.1 hD with rfl|hD
  ·exact⟨h.1,h.2.1⟩
  ·exact ce.lt h.2.2.2 D' hD
def ce.same{N:Nat}{W W':World}:∀{l:List Nat},ce N l W->(∀D∈l,W'.heap[D]? = W.heap[D]?)->ce N l W'
 |[],_,_=>trivial
 |D::l,h,hs=>⟨h.1,(hs D (by simp)).trans h.2.1,h.2.2.1,h.2.2.2.same (fun D' h'=>hs D' (by simp[h']))⟩
def ce.grown{N:Nat}{W W'}{l:List Nat}{row:Option Nat}(h:ce N l W)(hg:W.grownBy W' row)(hr:∀r,row=some r->¬r∈l):ce N l W':=
 h.same fun D hD=>hg.block D (NX.1 (h.lt D hD).2).1 fun e=>hr D e.symm hD
def ce.cells{N:Nat}{W W'}{l:List Nat}{row:Option Nat}(h:ce N l W)(hg:W.grownBy W' row)(hr:∀r,row=some r->∃o:Obj,W.heap[r]? = some o/\∀x,o≠ .deferred x):ce N l W':=
 h.grown hg fun r e hD=>by
  obtain⟨o,ho,hn⟩:=hr r e;have:=(h.lt r hD).2;rw[ho]at this;exact hn _ (Option.some.inj this)
def ce.below{N:Nat}{W W'}{l:List Nat}(h:ce N l W)(hb:eB W W'):ce N l W':=
 h.same fun D hD=>hb.block D (NX.1 (h.lt D hD).2).1
structure gV(N:Nat)(W W':World):Prop where
 bl:Below N W W'
 keep:∀(b:Nat)(o:Obj),W.heap[b]? = some o->(∀x,o≠ .deferred x)->W'.heap[b]? = some o
def gV.refl(N:Nat)(W):gV N W W:=⟨NB _ _,fun _ _ h _=>h⟩
def gV.put{N D:Nat}{W W':World}(h:gV N (W.putObj D (.deferred none)) W')(hD:N<=D)(hN:N<=W.heap.size)(hd:W.heap[D]? = some (.deferred (some []))):gV N W W':=by
 have hb:Below N W (W.putObj D (.deferred none)):=(NB N W).grown (grownBy_putObj' W D _) hN (fun k e=>by cases e;exact hD);refine⟨hb.trans h.bl,fun b o ho hn=>h.keep b o ((OM (fun e=>?_)).trans ho) hn⟩;subst e;rw[hd]at ho;exact hn _ (Option.some.inj ho).symm
def gV.blk{N b:Nat}{W W'}{l}{T}(h:gV N W W')(hb:Blk W b l T):Blk W' b l T:=h.keep b _ hb (fun x e=>by cases e)
def mw{F:Fence}{n:Nat}{P}{fn:Func}{tmps}{R:Ending->World->Prop}{N:Nat}:∀(l:List Nat)(W:World),N<=W.heap.size->ce N l W->(∀W',gV N W W'->∃v,(results fn tmps).run P W'=.ok v W'/\R (.returned v) W')->LeavesInM F n P fn tmps R (l.map qZ) .returning W
 |[],W,_,_,h=>h W (gV.refl N W)
 |D::l,W,hN,hm,h=>by
  refine⟨by simp,.inl ⟨_,_,rfl,run_takeDeferred hm.2.1,?_⟩⟩;have ac:(W.putObj D (.deferred none)).heap.size=W.heap.size:=by simp[World.putObj]
  refine mw l _ (by rw[ac];exact hN) (hm.2.2.2.same fun D' ab=>OM (fun e=>hm.2.2.1 (by rw[<-e];exact ab))) fun W' hs=>h W' (hs.put hm.1 hN hm.2.1)
def kP{F:Fence}{n:Nat}{P}{ops}{rest}{op:Oper}{a:Act}{w}{Q}{mt kt et}{Kd:Value->Prop}(hK:gP P kt Kd)(hm:P.underlying mt=some (.map kt et))(ag:op.guard=none)(x y)(ok:Bool)(ho:op.op=.lookup mt x y ok)(b:Nat)(k)(hx:a.eval x=.map (some b))(hy:a.eval y=k)(kv:List (Value×Value))(hB:aK w b kv)(al:∀p∈kv,Kd p.1)(hk:Kd k){z}(hz:∀w,(zeroValue et).run P w=.ok z w)(r)(hr:r=if ok then .tuple #[(aD kv k).getD z,.bool (aD kv k).isSome]else(aD kv k).getD z)(h:wpListIn F n P ops Q rest (a.put op.dst r) w):wpListIn F n P ops Q (op::rest) a w:=by
 refine wpListIn_plain ag fun K ac=>?_;have ab:=qE hK hm hB al hk hz ok;unfold Oper.wpIn;refine⟨?_,?_⟩
 ·simp[Oper.about,ho]
 ·rw[Oper.semAt_plain F _ _ (by rw[ho];intro c ad;cases ad)];have e:(execOp a.eval op).run P w=.ok (.value r) w:=by
   unfold execOp;simp only[ho,hx,hy,NM,ab,NO,NN,hr]
  rw[e,Oper.uponIn_value];exact ac _ _ h
end
section
attribute [local go_sem] Oper.semAt_some
structure ShS(w:World)(b5:Nat)(kv:List (Value×Value))(st:Int)(W:World):Prop where
 bl:eB w W
 k5:Blk W b5 [.map (some w.heap.size)] 325
 k6:Blk W (b5+1) [.int .i64 st] 3
 mp:aK W w.heap.size kv
def ShS.below{w W W'}{b5:Nat}{kv:List (Value×Value)}{st:Int}(h:ShS w b5 kv st W)(hb:eB W W'):ShS w b5 kv st W':=
 ⟨h.bl.trans (hb.mono h.bl.size),h.k5.below hb h.k5.lt,h.k6.below hb h.k6.lt,h.mp.below hb h.mp.lt⟩
def ShS.grown{w W W'}{b5:Nat}{kv:List (Value×Value)}{st:Int}{row:Option Nat}(h:ShS w b5 kv st W)(hg:W.grownBy W' row)(hr:∀r,row=some r->w.heap.size<r/\r≠b5/\r≠b5+1):ShS w b5 kv st W':=
 ⟨h.bl.grown hg h.bl.size (fun r e=>NS (hr r e).1),h.k5.grown hg (fun e=>(hr _ e.symm).2.1 rfl),h.k6.grown hg (fun e=>(hr _ e.symm).2.2 rfl),(hg.block _ h.mp.lt (fun e=>by have:=(hr _ e.symm).1;omega)).trans h.mp⟩
def ShS.put{w W}{b5:Nat}{kv:List (Value×Value)}{st:Int}(h:ShS w b5 kv st W)(hb:w.heap.size<b5)(ab:Int):ShS w b5 kv ab (W.setCell ⟨b5+1,0,none⟩ (.int .i64 ab)):=
 ⟨h.bl.setCell (p:=⟨b5+1,0,none⟩) (by show _<=b5+1;omega) _,h.k5.other (by omega) _,h.k6.set 0 _,(NF _ _ _ _ (by show w.heap.size≠b5+1;omega)).trans h.mp⟩
def oz(D:Nat->Option Nat)(n:Nat)(xs:List Nat)(st:Int):Prop:=(st= -1/\∀j∈xs,D j=none)\/(∃d:Nat,st=(d:Int)/\d<=n/\∃j∈xs,(D j).isSome=true)
def ShP(w:World)(p:Prop)(e:Ending)(w':World):Prop:=eB w w'/\((e=.returned (.slice none 0 0)/\¬p)\/(p/\∃A m c,e=.returned (.slice (some A) m c)/\m<=2097152))
def uM{W}{b i:Nat}{l}{T U}(h:Blk W b l U)(ab:U≠T)(v):aI T W (W.setCell ⟨b,i,none⟩ v):=
 aI.grown (gh W b i v) (fun r cs fr e hc=>by
  cases e;have:=hc.symm.trans h;injection this with this;injection this with _ this _;exact ab this.symm)
structure ShJ(w:World)(n b5:Nat)(kv:List (Value×Value))(ms:List Nat)(bt it st:Nat)(v4:Value)(L:List (List Value))(W:World):Prop where
 s:ShS w b5 kv st W
 mks:ce w.heap.size ms W
 kt:Blk W bt [.int .i64 (it:Int)] 3
 hit:it<n
 hbt:b5+1<bt
 own:aa W (b5+1+1) 3 1 v4 L
 l1:1<=L.length
 l2:L.length+st<=n+1
 ob:v4.ownBlock≠some bt
def ShJ.grown{w W W'}{n b5:Nat}{kv:List (Value×Value)}{ms:List Nat}{bt it st B:Nat}{v4}{L:List (List Value)}{row:Option Nat}(J:ShJ w n b5 kv ms bt it st v4 L W)(hg:W.grownBy W' row)(hr:∀r,row=some r->B<=r)(h1:w.heap.size<b5)(h2:bt<B)(h3:∀D∈ms,D<B)(h4:∀g,v4.ownBlock=some g->g<B):ShJ w n b5 kv ms bt it st v4 L W':=
 ⟨J.s.grown hg (fun r e=>by have:=hr r e;have:=J.hbt;omega),J.mks.grown hg (fun r e hD=>by have:=hr r e;have:=h3 r hD;omega),J.kt.grown hg (fun e=>by have:=hr _ e.symm;omega),J.hit,J.hbt,J.own.of_block (fun g ab=>hg.block g (J.own.lt ab) (fun e=>by have:=hr _ e.symm;have:=h4 g ab;omega)),J.l1,J.l2,J.ob⟩
def ShJ.goto{w W}{n b5:Nat}{kv:List (Value×Value)}{ms:List Nat}{bt it st x:Nat}{v4}{L:List (List Value)}(J:ShJ w n b5 kv ms bt it st v4 L W)(h1:w.heap.size<b5)(hx:x<n):ShJ w n b5 kv ms bt x st v4 L (W.setCell ⟨bt,0,none⟩ (.int .i64 (x:Int))):=by
 have hg:=gh W bt 0 (.int .i64 (x:Int));refine⟨J.s.grown hg (fun r e=>by cases e;have:=J.hbt;omega),J.mks.cells hg (fun r e=>by cases e;exact⟨_,J.kt,fun x e=>by cases e⟩),J.kt.set 0 _,hx,J.hbt,J.own.of_block (fun g ab=>hg.block g (J.own.lt ab) (fun e=>J.ob (by rw[ab,<-e]))),J.l1,J.l2,J.ob⟩
def ShJ.next{w W W2 W'}{n b5:Nat}{kv:List (Value×Value)}{ms:List Nat}{bt it st:Nat}{v4 v5}{L:List (List Value)}(J:ShJ w n b5 kv ms bt it (st+1) v4 L W)(h1:w.heap.size<b5)(ad:W.alloc (.cells #[.int .i64 (it:Int)] 3)=W2)(ho:aa W' (b5+1+1) 3 1 v5 (L++[[.int .i64 (it:Int)]]))(hg:W2.grownBy W' v4.ownBlock) :ShJ w n b5 kv ms W'.heap.size it st v5 (L++[[.int .i64 (it:Int)]]) ((W'.setCell ⟨b5+1,0,none⟩ (.int .i64 (st:Int))).alloc (.cells #[.int .i64 (it:Int)] 3)):=by
 have hb:eB W W2:=by rw[<-ad];exact ak _ _
 have O2:=J.own.below hb (No _);have ab:∀r,v4.ownBlock=some r->b5+1+1<=r:=fun r e=>J.own.ge e;have s':=(J.s.below hb).grown hg (fun r e=>by have:=ab r e;omega);have m':=(J.mks.below hb).cells hg (fun r e=>by
  rcases O2.1.2 with⟨rfl,_⟩|⟨g',cap,cur,rfl,_,h2,_⟩
  ·cases e
  ·cases e;exact⟨_,h2,fun x e=>by cases e⟩)
 have ag:b5+1<W'.heap.size:=s'.k6.lt;have sg:=gh W' (b5+1) 0 (.int .i64 (st:Int));have hz:(W'.setCell ⟨b5+1,0,none⟩ (.int .i64 (st:Int))).heap.size=W'.heap.size:=by simp[World.setCell]
 have nb:=Blk.new (W'.setCell ⟨b5+1,0,none⟩ (.int .i64 (st:Int))) [.int .i64 (it:Int)] 3;rw[hz]at nb;refine⟨(s'.put h1 _).below (ak _ _),(m'.cells sg (fun r e=>by cases e;exact⟨_,s'.k6,fun x e=>by cases e⟩)).below (ak _ _),nb,J.hit,ag,?_,by simp,by have:=J.l2;simp;omega,fun e=>by have:=ho.lt e;omega⟩;exact(ho.of_block (fun g ac=>sg.block g (ho.lt ac) (fun e=>by have:=ho.ge ac;have:=Option.some.inj e;omega))).alloc _
def oC(W:World)(b:Nat):Nat:=match W.cell? ⟨b,0,none⟩with
 |some (.int _ k)=>k.toNat
 |_=>0
def AW{W'}{b:Nat}{v}{st:Nat}{o:Obj}(h:Blk W' b [v] 3):oC ((W'.setCell ⟨b,0,none⟩ (.int .i64 (st:Int))).alloc o) b=st:=by
 unfold oC;rw[(((h.set 0 (.int .i64 (st:Int))).alloc o).at 0 (.int .i64 (st:Int)) rfl).1];simp
def ShI(w:World)(g n b5:Nat)(kv:List (Value×Value))(a:Act)(W:World):Prop:=
 ∃(u:Nat->Value)(ms:List Nat) (bt it st:Nat) (v4:Value) (L:List (List Value)),a={tmps:=#[.slice g n n,u 1,u 2,u 3,v4,.pointer b5,.pointer (b5+1:Nat),u 7,u 8,u 9,.pointer bt,u 11,u 12,u 13,u 14,u 15,u 16,u 17,u 18,u 19,u 20,u 21,u 22,u 23,u 24,u 25,u 26,u 27,u 28,u 29,u 30,u 31,u 32,u 33,u 34,u 35,u 36,u 37,u 38,u 39,u 40,u 41,u 42,u 43,u 44,u 45,u 46,u 47,u 48,u 49,u 50,u 51,u 52,u 53,u 54,u 55,u 56,u 57,u 58,u 59,u 60,u 61,u 62,u 63,u 64,u 65,u 66,u 67,u 68,u 69],defers:=ms.map qZ}/\ShJ w n b5 kv ms bt it st v4 L W
def Ly(g n first:Nat)(E:Nat->Nat->Bool)(w)(hg:Blk w g (dg g n n) 220)(hr:∀j,j<n->Blk w (g+1+j) (bZ E n j) 4)(hf:first<n)(hn:n<=1048576) :Calls prog 128 #[.slice g n n,.int .i64 (first:Int)] w (ShP w (∃j,E first j=true/\dW E n first j)):=by
 have cp:=MY (Lx g n first E w hg hr hf hn);have HG:=MY hg;have bn:=MY hr;have HF:=MY hf;have bp:=MY hn;clear hg hr;refine(callsIn_wide (n:=9)).1 ?_;refine callsIn_of_wp_marks func128 rfl trivial ?_ rfl;refine wpIn_wide.2 ?_;simp only[ntmps128,NV,M6,ND,Nat.reduceAdd,Nat.reduceSub,NZ,N0,N1,N2,M9,MZ];go_wp2_with fail;refine cp.mono ?_;rintro e w1 ⟨ar,kv,D,rfl,br,cR,bh,df⟩;obtain⟨b5,bw⟩:=nm w1.heap.size;obtain⟨W2,ad⟩:=nm ((w1.alloc (.cells #[.map (some w.heap.size)] 325)).alloc (.cells #[.int .i64 (-1)] 3));have cm:W2.heap.size=b5+1+1:=by rw[<-ad,<-bw];simp
 have S2:Hid (ShS w b5 kv (-1) W2):=by
  have e1:=Blk.new w1 [.map (some w.heap.size)] 325;have e2:=Blk.new (w1.alloc (.cells #[.map (some w.heap.size)] 325)) [.int .i64 (-1)] 3;rw[NU]at e2;rw[bw]at e1 e2;rw[<-ad];exact⟨(ar.alloc ar.size _).alloc (by have:=ar.size;simp;omega) _,e1.alloc _,e2,(br.below (ak _ _) br.lt).below (ak _ _) (by simp;have:=br.lt;omega)⟩
 have an:Hid (w.heap.size<b5):=by have:=br.lt;rw[bw]at this;exact this
 have bb:=MY cR;have ao:=MY bh;have dv:=MY df;have HU:=MY (uK (.slice g n n) first W2 ⟨_,_,_,rfl⟩);rw[cm]at HU;have cu:=MY cm;clear ar br cR bh df cp cm;go_wp2_with fail;clear ad bw;refine HU.mono ?_;rintro e w3 ⟨rfl,bx⟩;have dy:Hid (Blk w3 (b5+1+1) [.slice g n n] 147):=by
  have:=(Blk.new W2 [.slice g n n] 147).alloc (.cells #[.int .i64 (first:Int)] 3);rw[cu.out,bx]at this;exact this
 have cv:Hid (Blk w3 (b5+1+1+1) [.int .i64 (first:Int)] 3):=by
  have:=Blk.new (W2.alloc (.cells #[.slice g n n] 147)) [.int .i64 (first:Int)] 3;rw[NU,cu.out,bx]at this;exact this
 have S3:Hid (ShS w b5 kv (-1) w3):=by
  rw[<-bx];exact(S2.below (ak _ _)).below (ak _ _)
 have eb:b5+1+1+1<w3.heap.size:=cv.lt;clear bx HU S2;go_wp2_with fail;refine(wpIn_wide (n:=9)).1 ?_;refine' qX (x:= .ret) (pc:= .ret) (.inl ⟨rfl,rfl⟩) rfl (by omega) (gf:=129) (lb:=#[.pointer (b5+1+1:Nat),.pointer (b5+1+1+1:Nat)]) rfl trivial (enters_of func129 (by kernel_rfl) rfl) (encs:=fun x:Nat=>#[.int .i64 (x:Int)]) (T:=31) (N:=1048577) (w0:=w) (fun h k=>h.trans k) (fun h=>KpO.grown h) (fun V l o o' hl _ _=>KpO.put o' (by have:=S3.bl.size;omega))
  (AS 8 g n first (b5+1+1) (b5+1+1+1) E 31 w (KpO w.heap.size) (fun V W l T h hb=>h _ _ (bn.out first HF.out).lt hb) HF.out bp.out) ⟨dy.out,cv.out,HG.below S3.bl HG.lt,(bn.out first HF.out).below S3.bl (bn.out first HF.out).lt⟩ (fun V o h=>⟨h.1.alloc o,h.2.1.alloc o,h.2.2.1.alloc o,h.2.2.2.alloc o⟩) S3.bl (fun _=>rfl)
  (fun pre W=>∃st:Int,ShS w b5 kv st W/\oz D n pre st) (fun _ _=>False) ?hI (fun _ _ _ _ h _ _=>h) ⟨-1,S3.out,.inl ⟨rfl,fun j h=>by simp at h⟩⟩
  (fun x a' _=>a'={tmps:=#[.slice g n n,.int .i64 (first:Int),undef,undef,.slice none 0 0,.pointer b5,.pointer (b5+1:Nat),.int .i64 (x:Int),undef,undef,undef,undef,undef,undef,.slice g n n,.int .i64 (first:Int),.map (some w.heap.size),.slice g n n,.int .i64 (first:Int),.func (.func 129) #[] #[.pointer (b5+1+1:Nat),.pointer (b5+1+1+1:Nat)],.int .i64 (x:Int),undef,undef,undef,undef,undef,undef,undef,undef,undef,undef,undef,undef,undef,undef,undef,undef,undef,undef,undef,undef,undef,undef,undef,undef,undef,undef,undef,undef,undef,undef,undef,undef,undef,undef,undef,undef,undef,undef,undef,undef,undef,undef,undef,undef,undef,undef,undef,undef,undef],defers:=[]}) (fun _ _ _ _ _ _ h _ _=>h) ?assign ?body ?done (fun _ _ _ _ _ h _=>h.elim) (fun _ _ _ _ _ h _ _=>h.elim)
 case hI=>
  rintro pre A C row ⟨st,h1,h2⟩ hg hr;exact⟨st,h1.grown hg (fun r e=>by have:=(hr r e).1;have:=an.out;omega),h2⟩
 case assign=>
  intro l x W K hK;gi_wp2;exact hK _ _ (uL W none) rfl
 case body=>
  rintro l pre x a' W ⟨st,h1,h2⟩ rfl hp;have q5:=(h1.k5.at 0 _ rfl).1;obtain⟨q6,f6⟩:=h1.k6.at 0 _ rfl;have S1:=MY h1;have H2:=MY h2;have al:=bb.get x;clear h1 h2
  cases ag:D x with
  |none=>
   rw[ag]at al
   have aA:Hid (Value.tuple #[.int .i64 0,.bool false]=if true then .tuple #[(aD kv (.int .i64 (x:Int))).getD (.int .i64 0),.bool (aD kv (.int .i64 (x:Int))).isSome]else(aD kv (.int .i64 (x:Int))).getD (.int .i64 0)):=by
    show _=_;rw[al];rfl
   have HO:Hid (oz D n (pre++[x]) st):=by
    rcases H2.out with⟨h1,h2⟩|⟨d,h1,h2,j,h3,h4⟩
    ·exact .inl ⟨h1,fun j hj=>by
      rcases Of.1 hj with hj|hj
      ·exact h2 j hj
      ·rw[Oi]at hj;subst hj;exact ag⟩
    ·exact .inr ⟨d,h1,h2,j,List.mem_append_left _ h3,h4⟩
   clear al ag
   gi_wp2_with (refine kP (fj _ _ underlying3) underlying325 rfl (.tmp 22) (.tmp 23) true rfl w.heap.size (.int .i64 (x:Int)) rfl rfl kv S1.mp bb.key ⟨_,rfl⟩ (z:= .int .i64 0) (fun _=>rfl) _ aA.out ?_)
   exact⟨KeepsOthers.refl _,aI.refl _ _,(fun _ _ _ h=>h:KpO w.heap.size W W),st,S1.out,HO.out⟩
  |some d=>
   rw[ag]at al
   have aA:Hid (Value.tuple #[.int .i64 (d:Int),.bool true]=if true then .tuple #[(aD kv (.int .i64 (x:Int))).getD (.int .i64 0),.bool (aD kv (.int .i64 (x:Int))).isSome]else(aD kv (.int .i64 (x:Int))).getD (.int .i64 0)):=by
    show _=_;rw[al];rfl
   have dT:=dv.out x d ag
   have dn:Hid (oz D n (pre++[x]) (d:Int)):= .inr ⟨d,rfl,by omega,x,by simp,by rw[ag];rfl⟩
   have dr:Hid (¬st<0->oz D n (pre++[x]) st):=fun h=>by
    rcases H2.out with⟨h1,h2⟩|⟨d,h1,h2,j,h3,h4⟩
    ·omega
    ·exact .inr ⟨d,h1,h2,j,List.mem_append_left _ h3,h4⟩
   have ec:=S1.k6.lt
   have di:st<9223372036854775807/\ -9223372036854775808<st:=by
    have:=bp.out;rcases H2.out with⟨h1,h2⟩|⟨d,h1,h2,_⟩ <;> omega
   have bo:Hid (∀W',W'=W.setCell ⟨b5+1,0,none⟩ (.int .i64 (d:Int))->KeepsOthers W W'/\aI 31 W W'/\KpO w.heap.size W W'/\∃st:Int,ShS w b5 kv st W'/\oz D n (pre++[x]) st):=fun W' e=>by
    subst e;exact⟨Oa _ _ _,uM S1.k6 (by decide) _,(fun b o hb ho=>(NF _ _ _ _ (by have:=an.out;show b≠b5+1;omega)).trans ho),_,S1.put an.out _,dn.out⟩
   clear al ag
   by_cases h0:st<0
   ·have t1:decide (st<0)=true:=by simpa using h0
    gi_wp2_with (refine kP (fj _ _ underlying3) underlying325 rfl (.tmp 22) (.tmp 23) true rfl w.heap.size (.int .i64 (x:Int)) rfl rfl kv S1.mp bb.key ⟨_,rfl⟩ (z:= .int .i64 0) (fun _=>rfl) _ aA.out ?_)
    exact bo.out _ rfl
   ·have t1:decide (st<0)=false:=by simpa using h0
    by_cases h1:(d:Int)<st
    ·have t2:decide ((d:Int)<st)=true:=by simpa using h1
     gi_wp2_with (refine kP (fj _ _ underlying3) underlying325 rfl (.tmp 22) (.tmp 23) true rfl w.heap.size (.int .i64 (x:Int)) rfl rfl kv S1.mp bb.key ⟨_,rfl⟩ (z:= .int .i64 0) (fun _=>rfl) _ aA.out ?_)
     exact bo.out _ rfl
    ·have t2:decide ((d:Int)<st)=false:=by simpa using h1
     gi_wp2_with (refine kP (fj _ _ underlying3) underlying325 rfl (.tmp 22) (.tmp 23) true rfl w.heap.size (.int .i64 (x:Int)) rfl rfl kv S1.mp bb.key ⟨_,rfl⟩ (z:= .int .i64 0) (fun _=>rfl) _ aA.out ?_)
     exact⟨KeepsOthers.refl _,aI.refl _ _,(fun _ _ _ h=>h:KpO w.heap.size W W),st,S1.out,dr.out h0⟩
 case done=>
  rintro Dm xs W hD rfl ⟨st,h1,h2⟩ hK;have HM:Hid (ce w.heap.size [Dm] W):=⟨by have:=an.out;omega,hK,by simp,trivial⟩
  have el:Hid (b5+1<Dm):=by show _<_;omega
  have q6:=(h1.k6.at 0 _ rfl).1;have S1:=MY h1;rcases h2 with⟨rfl,h2⟩|⟨d,rfl,dT,j0,cN,cP⟩
  ·have dl:Hid (¬ ∃j,E first j=true/\dW E n first j):=by
    rintro⟨j,h3,h4⟩;have h5:=(ao.out j).2 h4;have h6:j<n:=by rcases h4 with⟨rfl,h⟩|h;exact h;exact h.low.2
    rw[h2 j (uJ.2 ⟨h6,h3⟩)]at h5
    cases h5
   clear h1 h2 hK;go_wp2_with fail;exact mw (N:=w.heap.size) [Dm] W S1.bl.size HM.out (fun W' hs=>⟨.slice none 0 0,by simp[results,results128,go_sem],S1.bl.trans hs.bl,.inl ⟨rfl,dl.out⟩⟩)
  have ds:Hid (∃j,E first j=true/\dW E n first j):=⟨j0,(uJ.1 cN).2,(ao.out j0).1 cP⟩
  have t1:decide ((d:Int)<0)=false:=by simp
  obtain⟨sz,ef⟩:=nm W.heap.size;obtain⟨W4,cC⟩:=nm ((W.alloc (.cells #[.int .i64 (first:Int)] 3)).alloc (.cells #[.int .i64 (first:Int)] 3));have J0:Hid (ShJ w n b5 kv [Dm] (sz+1) first d (.slice sz 1 1) [[.int .i64 (first:Int)]] W4):=by
   have e1:=Blk.new W [.int .i64 (first:Int)] 3;have e2:=Blk.new (W.alloc (.cells #[.int .i64 (first:Int)] 3)) [.int .i64 (first:Int)] 3;rw[NU]at e2;rw[ef]at e1 e2;have em:=S1.k6.lt;rw[<-cC];refine⟨(S1.below (ak _ _)).below (ak _ _),(HM.below (ak _ _)).below (ak _ _),e2,HF.out,by omega,⟨⟨by simp,.inr ⟨sz,1,#[.int .i64 (first:Int)],rfl,by omega,e1.alloc _,No _,by decide,by simp,by simp⟩⟩,by simp⟩,by simp,by simp;omega,fun e=>by have:=Option.some.inj e;simp at this⟩
  clear h1 cN cP hK;go_wp2_with fail;clear cC;refine(wpIn_wide (n:=9)).1 ?_;refine wpIn_loop (ShI w g n b5 kv) (fun _ V=>oC V (b5+1)) ?_ ?_
  ·exact⟨fun i=>(#[.slice g n n,.int .i64 (first:Int),undef,undef,.slice sz 1 1,.pointer b5,.pointer (b5+1:Nat),undef,undef,undef,.pointer (sz+1:Nat),undef,undef,undef,.slice g n n,.int .i64 (first:Int),.map (some w.heap.size),.slice g n n,.int .i64 (first:Int),.func (.func 129) #[] #[.pointer (b5+1+1:Nat),.pointer (b5+1+1+1:Nat)],undef,undef,undef,undef,undef,undef,undef,undef,undef,undef,undef,undef,undef,undef,undef,undef,undef,undef,.int .i64 (d:Int),.bool false,.int .i64 (first:Int),.slice sz 1 1,.int .i64 (first:Int),undef,undef,undef,undef,undef,undef,undef,undef,undef,undef,undef,undef,undef,undef,undef,undef,undef,undef,undef,undef,undef,undef,undef,undef,undef,undef,undef]:Array Value).getD i undef,[Dm],sz+1,first,d,_,_,rfl,J0.out⟩
  rintro a V ⟨u,ms,bt,it,st,v4,L,rfl,J⟩;have JJ:=MY J;obtain⟨q6,f6⟩:=J.s.k6.at 0 _ rfl;obtain⟨ca,f10⟩:=J.kt.at 0 _ rfl;have ci:=J.s.k6.lt;have bg:=J.kt.lt;have be:=J.hit;have ee:st<=n:=by have:=J.l1;have:=J.l2;omega
  obtain⟨g4,n4,c4,rfl,db,ea⟩:∃g4 n4 c4,v4=.slice (some ⟨g4,0,none⟩) n4 c4/\n4=L.length/\n4<=1048577:=by
   have h1:=J.l1;have h2:=J.l2;rcases J.own.1.2 with⟨_,h0⟩|⟨g',cap,cur,rfl,_⟩
   ·omega
   ·exact⟨g',_,cap,rfl,rfl,by omega⟩
  have dd:oC V (b5+1)=st:=by unfold oC;rw[q6];simp
  have cr:=MY dd;have ei:=MY db;clear J dd db;by_cases di:st=0
  ·subst di;gi_wp2_with fail;go_wp2_with fail;exact mw (N:=w.heap.size) ms V JJ.s.bl.size JJ.mks (fun W' hs=>⟨.slice g4 n4 c4,by simp[results,results128,go_sem],JJ.s.bl.trans hs.bl,.inr ⟨ds.out,_,_,_,rfl,by omega⟩⟩)
  have t2:decide ((0:Int)<(st:Int))=true:=by simp;omega
  obtain⟨vz,cl⟩:=nm V.heap.size;have ch:=MY (uK (.slice g n n) it V ⟨_,_,_,rfl⟩);rw[cl]at ch;have cs:=MY cl;clear cl;gi_wp2_with fail;refine⟨trivial,(callsIn_wide.2 ch.out).mono ?_⟩;rintro e V1 ⟨rfl,bv⟩;have Y1:Hid (Blk V1 vz [.slice g n n] 147):=by
   have:=(Blk.new V [.slice g n n] 147).alloc (.cells #[.int .i64 (it:Int)] 3);rw[cs.out,bv]at this;exact this
  have Y2:Hid (Blk V1 (vz+1) [.int .i64 (it:Int)] 3):=by
   have:=Blk.new (V.alloc (.cells #[.slice g n n] 147)) [.int .i64 (it:Int)] 3;rw[NU,cs.out,bv]at this;exact this
  have ar:eB V V1:=by rw[<-bv];exact((NB _ V).alloc (No _) _).alloc (by simp) _
  have J1:Hid (ShJ w n b5 kv ms bt it st (.slice g4 n4 c4) L V1):=by
   have J:=JJ.out;exact⟨J.s.below ar,J.mks.below ar,J.kt.below ar J.kt.lt,J.hit,J.hbt,J.own.below ar (No _),J.l1,J.l2,J.ob⟩
  have ed:V.heap.size<=V1.heap.size:=ar.size;have cw:bt<V1.heap.size:=by omega
  have cx:∀D∈ms,D<V1.heap.size:=fun D hD=>by have:=(NX.1 (JJ.mks.lt D hD).2).1;omega
  have cz:∀g',(Value.slice g4 n4 c4).ownBlock=some g'->g'<V1.heap.size:=fun g' e=>by have:=JJ.own.lt e;omega
  have cn:=MY cw;have bu:=MY cx;have co:=MY cz;obtain⟨ab,rfl⟩:∃k,st=k+1:=⟨st-1,by omega⟩
  clear ar bv q6 f6 ca f10 ch cw cx cz ed ci bg t2;gi_wp2_with fail;refine' qX (x:= .exit 4) (pc:= .exit 4) (.inr ⟨4,rfl,rfl⟩) rfl (by omega) (gf:=129) (lb:=#[.pointer vz,.pointer (vz+1:Nat)]) rfl trivial (enters_of func129 (by kernel_rfl) rfl) (encs:=fun x:Nat=>#[.int .i64 (x:Int)]) (T:=31) (N:=1048577) (w0:=w) (fun h k=>h.trans k) (fun h=>KpO.grown h) (fun V l o o' hl _ _=>KpO.put o' (by have:=J1.s.bl.size;omega))
   (AS 8 g n it vz (vz+1) E 31 w (KpO w.heap.size) (fun V W l T h hb=>h _ _ (bn.out it be).lt hb) be bp.out) ⟨Y1.out,Y2.out,HG.below J1.s.bl HG.lt,(bn.out it be).below J1.s.bl (bn.out it be).lt⟩ (fun V o h=>⟨h.1.alloc o,h.2.1.alloc o,h.2.2.1.alloc o,h.2.2.2.alloc o⟩) J1.s.bl (fun _=>rfl)
   (fun _ W=>ShJ w n b5 kv ms bt it (ab+1) (.slice g4 n4 c4) L W) (fun _ W=>∃ac,ShJ w n b5 kv ms bt ac (ab+1) (.slice g4 n4 c4) L W) ?hI2 ?hIx2 J1.out
   (fun x a' _=>a'={tmps:=#[.slice g n n,u 1,u 2,u 3,(.slice g4 n4 c4),.pointer b5,.pointer (b5+1:Nat),u 7,u 8,u 9,.pointer bt,.int .i64 (x:Int),u 12,u 13,u 14,u 15,u 16,u 17,u 18,u 19,u 20,u 21,u 22,u 23,u 24,u 25,u 26,u 27,u 28,u 29,u 30,u 31,u 32,u 33,u 34,u 35,u 36,u 37,u 38,u 39,u 40,u 41,u 42,.int .i64 ((ab:Int)+1),.bool true,u 45,u 46,.slice g n n,.int .i64 (it:Int),.func (.func 129) #[] #[.pointer vz,.pointer (vz+1:Nat)],.int .i64 (x:Int),u 51,u 52,u 53,u 54,u 55,u 56,u 57,u 58,u 59,u 60,u 61,u 62,u 63,u 64,u 65,u 66,u 67,u 68,u 69],defers:=[]}) (fun _ _ _ _ _ _ h _ _=>h) ?assign2 ?body2 ?done2 ?stop2 (fun _ _ _ _ _ h _ _=>h.elim)
  case hI2=>exact fun pre A C row J hg hr=>J.grown hg (fun r e=>(hr r e).1) an.out cn.out bu.out co.out
  case hIx2=>exact fun pre A C row ⟨ac,J⟩ hg hr=>⟨ac,J.grown hg (fun r e=>(hr r e).1) an.out cn.out bu.out co.out⟩
  case assign2=>
   intro l x W K hK;gi_wp2;exact hK _ _ (uL W none) rfl
  case body2=>
   rintro l pre x a' W J2 rfl hp;have q5:=(J2.s.k5.at 0 _ rfl).1;obtain⟨q6,f6⟩:=J2.s.k6.at 0 _ rfl;obtain⟨ca,f10⟩:=J2.kt.at 0 _ rfl;have bg:=J2.kt.lt;have bm:=MY J2;have al:=bb.get x;have cq:Hid (KeepsOthers W W/\aI 31 W W/\KpO w.heap.size W W/\ShJ w n b5 kv ms bt it (ab+1) (.slice g4 n4 c4) L W):=⟨KeepsOthers.refl _,aI.refl _ _,fun _ _ _ h=>h,J2⟩
   clear J2
   cases ag:D x with
   |none=>
    rw[ag]at al
    have aA:Hid (Value.tuple #[.int .i64 0,.bool false]=if true then .tuple #[(aD kv (.int .i64 (x:Int))).getD (.int .i64 0),.bool (aD kv (.int .i64 (x:Int))).isSome]else(aD kv (.int .i64 (x:Int))).getD (.int .i64 0)):=by
     show _=_;rw[al];rfl
    clear al ag
    gi_wp2_with (refine kP (fj _ _ underlying3) underlying325 rfl (.tmp 52) (.tmp 53) true rfl w.heap.size (.int .i64 (x:Int)) rfl rfl kv bm.s.mp bb.key ⟨_,rfl⟩ (z:= .int .i64 0) (fun _=>rfl) _ aA.out ?_)
    exact cq.out
   |some d'=>
    rw[ag]at al
    have aA:Hid (Value.tuple #[.int .i64 (d':Int),.bool true]=if true then .tuple #[(aD kv (.int .i64 (x:Int))).getD (.int .i64 0),.bool (aD kv (.int .i64 (x:Int))).isSome]else(aD kv (.int .i64 (x:Int))).getD (.int .i64 0)):=by
     show _=_;rw[al];rfl
    have eg:x<n:=by
     rcases(ao.out x).1 (by rw[ag];rfl)with⟨rfl,h⟩|h
     ·exact h
     ·exact h.low.2
    have dk:Hid (KeepsOthers W (W.setCell ⟨bt,0,none⟩ (.int .i64 (x:Int)))/\∃ac,ShJ w n b5 kv ms bt ac (ab+1) (.slice g4 n4 c4) L (W.setCell ⟨bt,0,none⟩ (.int .i64 (x:Int)))):=⟨Oa _ _ _,x,bm.goto an.out eg⟩
    clear al ag
    by_cases cD:(d':Int)=(ab:Int)+1
    ·have t3:((d':Int)==(ab:Int)+1)=true:=by simpa using cD
     gi_wp2_with (refine kP (fj _ _ underlying3) underlying325 rfl (.tmp 52) (.tmp 53) true rfl w.heap.size (.int .i64 (x:Int)) rfl rfl kv bm.s.mp bb.key ⟨_,rfl⟩ (z:= .int .i64 0) (fun _=>rfl) _ aA.out ?_)
     exact⟨rfl,dk.out⟩
    ·have t3:((d':Int)==(ab:Int)+1)=false:=by simpa using cD
     gi_wp2_with (refine kP (fj _ _ underlying3) underlying325 rfl (.tmp 52) (.tmp 53) true rfl w.heap.size (.int .i64 (x:Int)) rfl rfl kv bm.s.mp bb.key ⟨_,rfl⟩ (z:= .int .i64 0) (fun _=>rfl) _ aA.out ?_)
     exact cq.out
  case done2=>
   rintro Dn xs W hD _ J2 hK;have bm:=MY J2;obtain⟨ca,f10⟩:=J2.kt.at 0 _ rfl;have cd:Hid (ce w.heap.size (Dn::ms) W):=⟨by have:=J1.s.bl.size;show _<=_;omega,hK,fun h=>by have:=bu.out Dn h;omega,J2.mks⟩
   have ba:Hid (ShJ w n b5 kv (Dn::ms) bt it (ab+1) (.slice g4 n4 c4) L W):=⟨J2.s,cd.out,J2.kt,J2.hit,J2.hbt,J2.own,J2.l1,J2.l2,J2.ob⟩
   obtain⟨W2,ad⟩:=nm (W.alloc (.cells #[.int .i64 (it:Int)] 3));have bd:eB W W2:=by rw[<-ad];exact ak _ _
   have O2:=MY (J2.own.below bd (No _));have X2:Hid (Blk W2 W.heap.size [.int .i64 (it:Int)] 3):=by rw[<-ad];exact Blk.new W _ _
   have cc:Hid (L.length<=16777216):=by have:=J2.l2;have:=bp.out;show _<=_;omega
   have bi:Hid (b5+1+1<=W2.heap.size):=by have:=J2.s.k6.lt;have:=bd.size;show _<=_;omega
   have ax:=(J2.kt.below bd J2.kt.lt)
   clear J2 hK bd;gi_wp2_with (gi_at_builtin;refine nU jG rfl (.tmp 64) (.tmp 66) rfl (b5+1+1) (.slice g4 n4 c4) L rfl O2.out W.heap.size 1 [.int .i64 (it:Int)] 3 rfl X2.out rfl rfl cc.out bi.out ?_;intro v5 w5 bk av;have cf:=MY (ba.next an.out ad bk av);have bs:=((ax.grown av (fun e=>ba.ob e.symm)).at 0 _ rfl).1;have bg:=(ax.grown av (fun e=>ba.ob e.symm)).lt;have bc:=(ba.s.below (W':=W2) (by rw[<-ad];exact ak _ _)).grown av (fun r e=>by have:=O2.ge e;have:=an.out;omega);obtain⟨q6,f6⟩:=bc.k6.at 0 _ rfl;have ci:=bc.k6.lt;have cb:=MY bc.k6;clear bc;obtain⟨A5,c5,rfl⟩:=bk.slice;clear bk av);refine⟨⟨fun i=>(#[.slice g n n,u 1,u 2,u 3,.slice A5 (L.length+1) c5,.pointer b5,.pointer (b5+1:Nat),u 7,u 8,u 9,.pointer w5.heap.size,u 11,u 12,u 13,u 14,u 15,u 16,u 17,u 18,u 19,u 20,u 21,u 22,u 23,u 24,u 25,u 26,u 27,u 28,u 29,u 30,u 31,u 32,u 33,u 34,u 35,u 36,u 37,u 38,u 39,u 40,u 41,u 42,.int .i64 ((ab:Int)+1),.bool true,.int .i64 ((ab:Int)+1),.int .i64 (ab:Int),.slice g n n,.int .i64 (it:Int),.func (.func 129) #[] #[.pointer vz,.pointer (vz+1:Nat)],u 50,u 51,u 52,u 53,u 54,u 55,u 56,u 57,u 58,u 59,u 60,u 61,u 62,u 63,(.slice g4 n4 c4),.int .i64 (it:Int),.slice W.heap.size 1 1,.slice A5 (L.length+1) c5,.int .i64 (it:Int),u 69]:Array Value).getD i undef,Dn::ms,w5.heap.size,it,ab,.slice A5 (L.length+1) c5,L++[[.int .i64 (it:Int)]],rfl,?_⟩,?_⟩
   ·have h:=cf.out;rw[Oe,OP]at h;exact h
   ·rw[cr.out,AW cb.out];exact Nat.lt_succ_self _
  case stop2=>
   rintro Dn xs W hD _ ⟨ac,J2⟩ hK;have bm:=MY J2;obtain⟨ca,f10⟩:=J2.kt.at 0 _ rfl;have cd:Hid (ce w.heap.size (Dn::ms) W):=⟨by have:=J1.s.bl.size;show _<=_;omega,hK,fun h=>by have:=bu.out Dn h;omega,J2.mks⟩
   have ba:Hid (ShJ w n b5 kv (Dn::ms) bt ac (ab+1) (.slice g4 n4 c4) L W):=⟨J2.s,cd.out,J2.kt,J2.hit,J2.hbt,J2.own,J2.l1,J2.l2,J2.ob⟩
   obtain⟨W2,ad⟩:=nm (W.alloc (.cells #[.int .i64 (ac:Int)] 3));have bd:eB W W2:=by rw[<-ad];exact ak _ _
   have O2:=MY (J2.own.below bd (No _));have X2:Hid (Blk W2 W.heap.size [.int .i64 (ac:Int)] 3):=by rw[<-ad];exact Blk.new W _ _
   have cc:Hid (L.length<=16777216):=by have:=J2.l2;have:=bp.out;show _<=_;omega
   have bi:Hid (b5+1+1<=W2.heap.size):=by have:=J2.s.k6.lt;have:=bd.size;show _<=_;omega
   have ax:=(J2.kt.below bd J2.kt.lt)
   clear J2 hK bd;gi_wp2_with (gi_at_builtin;refine nU jG rfl (.tmp 64) (.tmp 66) rfl (b5+1+1) (.slice g4 n4 c4) L rfl O2.out W.heap.size 1 [.int .i64 (ac:Int)] 3 rfl X2.out rfl rfl cc.out bi.out ?_;intro v5 w5 bk av;have cf:=MY (ba.next an.out ad bk av);have bs:=((ax.grown av (fun e=>ba.ob e.symm)).at 0 _ rfl).1;have bg:=(ax.grown av (fun e=>ba.ob e.symm)).lt;have bc:=(ba.s.below (W':=W2) (by rw[<-ad];exact ak _ _)).grown av (fun r e=>by have:=O2.ge e;have:=an.out;omega);obtain⟨q6,f6⟩:=bc.k6.at 0 _ rfl;have ci:=bc.k6.lt;have cb:=MY bc.k6;clear bc;obtain⟨A5,c5,rfl⟩:=bk.slice;clear bk av);refine⟨⟨fun i=>(#[.slice g n n,u 1,u 2,u 3,.slice A5 (L.length+1) c5,.pointer b5,.pointer (b5+1:Nat),u 7,u 8,u 9,.pointer w5.heap.size,u 11,u 12,u 13,u 14,u 15,u 16,u 17,u 18,u 19,u 20,u 21,u 22,u 23,u 24,u 25,u 26,u 27,u 28,u 29,u 30,u 31,u 32,u 33,u 34,u 35,u 36,u 37,u 38,u 39,u 40,u 41,u 42,.int .i64 ((ab:Int)+1),.bool true,.int .i64 ((ab:Int)+1),.int .i64 (ab:Int),.slice g n n,.int .i64 (it:Int),.func (.func 129) #[] #[.pointer vz,.pointer (vz+1:Nat)],u 50,u 51,u 52,u 53,u 54,u 55,u 56,u 57,u 58,u 59,u 60,u 61,u 62,u 63,(.slice g4 n4 c4),.int .i64 (ac:Int),.slice W.heap.size 1 1,.slice A5 (L.length+1) c5,.int .i64 (ac:Int),u 69]:Array Value).getD i undef,Dn::ms,w5.heap.size,ac,ab,.slice A5 (L.length+1) c5,L++[[.int .i64 (ac:Int)]],rfl,?_⟩,?_⟩
   ·have h:=cf.out;rw[Oe,OP]at h;exact h
   ·rw[cr.out,AW cb.out];exact Nat.lt_succ_self _
end
class Is{α:Type}(x:α)(y:outParam α):Prop where
 out:x=y
section
variable {P:Program} {As Bs:List Asn} {l rest:List Oper} {Q:Exit->Act->World->Prop} {N:Nat} {T:TypeId} {z:List Value} {ord2:List Nat} {i f t f' u:Nat} {is:List Nat} {o:Oper} {a:Act} {w W W':World} {v p q:Value} {x y:Operand} {ι:Type} {g:ι->List Asn} {A B:Asn} {fn:FuncId}
def Sep.push2(M:Sep As W)(h:eB W W'){G H:Nat->Prop}(hA:A.x.p W' G)(hB:B.x.p W' H)(hG:∀k,G k->W.heap.size<=k)(hH:∀k,H k->W.heap.size<=k)(hn:∀k,G k->¬H k):Sep (A::B::As) W':=by
 obtain⟨F,h1,h2⟩:=M;have ho:∀j C k,As[j]? = some C->F j k->¬G k/\¬H k:=fun j C k hC hk=>by
  have:=C.x.lt (h1 j C hC) k hk;exact⟨fun e=>absurd this (Nat.not_lt.2 (hG k e)),fun e=>absurd this (Nat.not_lt.2 (hH k e))⟩
 refine⟨fun i=>match i with|0=>G|1=>H|i+2=>F i,fun i C hC=>?_,fun i j C D hC hD ac hr k hk ab=>?_⟩
 ·match i,hC with
  |0,hC=>cases hC;exact hA
  |1,hC=>cases hC;exact hB
  |i+2,hC=>exact C.x.loc (h1 i C hC) (.of h (C.x.lt (h1 i C hC)))
 ·match i,j,hC,hD with
  |0,0,_,_=>exact ac rfl
  |0,1,_,_=>exact hn k hk ab
  |1,0,_,_=>exact hn k ab hk
  |1,1,_,_=>exact ac rfl
  |0,j+2,_,hD=>exact(ho j D k hD ab).1 hk
  |1,j+2,_,hD=>exact(ho j D k hD ab).2 hk
  |i+2,0,hC,_=>exact(ho i C k hC hk).1 ab
  |i+2,1,hC,_=>exact(ho i C k hC hk).2 ab
  |i+2,j+2,hC,hD=>exact h2 i j C D hC hD (fun e=>ac (by rw[e])) hr k hk ab
def fx{ax:Value->Act}{xs:List Operand}{vs us cs:List Value}{ts:Array TypeId}{pe:List PanicEntry}(M:dH N As w)(h:∀W,Sep As W->∀x,Q (.panic pe) (ax x) W)(hi:Nat.blt i 1000=false:=by rfl)(hl:l.drop (i-1000)=o::rest:=by rfl)(e0:∀x,a.put (some t) x=ax x:=by intro x;(try simp only[PT]);try rfl)(ho:o.op=.call {callee:= .value y,args:=xs.toArray,argTypes:=ts}:=by rfl)(hf:∀x,evo (ax x) y=some (.func (.func fn) #[] cs.toArray):=by intro x;rfl)(hx:∀x,evl (ax x) xs=some vs:=by intro x;rfl)(hv:vs++cs=us:=by(try simp only[MZ,M9,Oz]);try rfl)(hC:fC P fn us.toArray As pe:=by infer_instance)(ab:∀w,(callFunc fn us.toArray).run P w=.ok (.enter fn us.toArray) w:=by intro w;simp)(ht:Nat.blt t a.tmps.size=true:=by rfl)(hw:∀x,Region.wanted o (yielded l.toArray (ax x).tmps)=true:=by intro x;rfl):aN P l.toArray Q (fun W=>∃z,Sep (g z) W) [(f,t)] N T z ord2 (i::is) a w:=by
 subst hv;refine lE ht hi hl fun x W hW _=>⟨by rw[e0];exact hw x,fun K hK=>?_⟩
 have e1:(execOp (ax x).eval o).run P W=.ok (.enter fn (vs++cs).toArray) W:=by
  have hm:=kd (hx x);unfold execOp;simp[ho,resolve,hm,bU (hf x),Deferred.ofValue,invoke,NM,NO,NN];simpa using ab W
 rw[e0];unfold Oper.wp;rw[e1,Oper.upon_enter];exact(hC.out W (M.ext hW).sep).mono fun _ W ⟨e,M'⟩=>by subst e;exact h W M' x
def Gq{ax a':Value->Value->Act}{v:Value}(h:∀x y,aN P l.toArray Q (fun W=>∃z,Sep (g z) W) [(f,t),(f',u)] N T z ord2 is (a' x y) w)(hi:Nat.blt i 1000=true:=by rfl)(hl:l.drop i=o::rest:=by rfl)(e0:∀x y,(a.put (some t) x).put (some u) y=ax x y:=by intro x y;(try simp only[PT]);try rfl)(hq:∀z x y,Qt P (g z) o.op (ax x y) v:=by intro z x y;exact .load rfl rfl (by infer_instance) cj)(ht:Nat.blt t a.tmps.size=true:=by rfl)(hu:Nat.blt u a.tmps.size=true:=by rfl)(hn:Nat.beq t u=false:=by rfl)(hd:(o.dst==some t)=false:=by rfl)(ab:(o.dst==some u)=false:=by rfl)(hw:∀x y,Region.wanted o (yielded l.toArray (ax x y).tmps)=true:=by intro x y;rfl)(e:∀x y,(ax x y).put o.dst v=a' x y:=by intro x y;(try simp only[PT]);try rfl):aN P l.toArray Q (fun W=>∃z,Sep (g z) W) [(f,t),(f',u)] N T z ord2 (i::is) a w:=
 xK ht hu hn hi hl hd ab fun x y=>⟨v,by rw[e0];exact hw x y,fun w ⟨z,hS⟩=>by rw[e0];exact(hq z x y).run hS,by rw[e0,e];exact h x y⟩
def GQ{ax a':Value->Value->Act}{v}(h:∀x y,aN P l.toArray Q (fun W=>∃z,Sep (g z) W) [(f,t),(f',u)] N T z ord2 is (a' x y) w)(hi:Nat.blt i 1000=true:=by rfl)(hl:l.drop i=o::rest:=by rfl)(e0:∀x y,(a.put (some t) x).put (some u) y=ax x y:=by intro x y;(try simp only[PT]);try rfl)(hy:∀x y w,(execOp (ax x y).eval o).run P w=.ok (.value v) w:=by(intro x y w;go_simp;try(with_reducible rfl)))(ht:Nat.blt t a.tmps.size=true:=by rfl)(hu:Nat.blt u a.tmps.size=true:=by rfl)(hn:Nat.beq t u=false:=by rfl)(hd:(o.dst==some t)=false:=by rfl)(ab:(o.dst==some u)=false:=by rfl)(hw:∀x y,Region.wanted o (yielded l.toArray (ax x y).tmps)=true:=by intro x y;rfl)(e:∀x y,(ax x y).put o.dst v=a' x y:=by intro x y;(try simp only[PT]);try rfl):aN P l.toArray Q (fun W=>∃z,Sep (g z) W) [(f,t),(f',u)] N T z ord2 (i::is) a w:=
 xK ht hu hn hi hl hd ab fun x y=>⟨v,by rw[e0];exact hw x y,fun w _=>by rw[e0];exact hy x y w,by rw[e0,e];exact h x y⟩
def AX{ax:Value->Value->Act}{xs:List Operand}{vs cs:List Value}{ts:Array TypeId}{x y}{c}(ho:o.op=.call {callee:= .value c,args:=xs.toArray,argTypes:=ts})(hf:evo (ax x y) c=some (.func (.func fn) #[] cs.toArray))(hx:evl (ax x y) xs=some vs)(ab:∀w,(callFunc fn (vs++cs).toArray).run P w=.ok (.enter fn (vs++cs).toArray) w)(W):(execOp (ax x y).eval o).run P W=.ok (.enter fn (vs++cs).toArray) W:=by
 have hm:=kd hx;unfold execOp;simp[ho,resolve,hm,bU hf,Deferred.ofValue,invoke,NM,NO,NN];simpa using ab W
def Gc{ax a':Value->Value->Act}{v:Value}{xs:List Operand}{vs us cs:List Value}{ts:Array TypeId}(M:dH N As w)(h:∀W,dH N As W->∀x y,aN P l.toArray Q (fun W=>∃z,Sep (g z) W) [(f,t),(f',u)] N T z ord2 is (a' x y) W)(hi:Nat.blt i 1000=false:=by rfl)(hl:l.drop (i-1000)=o::rest:=by rfl)(e0:∀x y,(a.put (some t) x).put (some u) y=ax x y:=by intro x y;(try simp only[PT]);try rfl)(ho:o.op=.call {callee:= .value y,args:=xs.toArray,argTypes:=ts}:=by rfl)(hf:∀x z,evo (ax x z) y=some (.func (.func fn) #[] cs.toArray):=by intro x y;rfl)(hx:∀x y,evl (ax x y) xs=some vs:=by intro x y;rfl)(hv:vs++cs=us:=by(try simp only[MZ,M9,Oz]);try rfl)(hC:aB P fn us.toArray As v:=by infer_instance)(ab:∀w,(callFunc fn us.toArray).run P w=.ok (.enter fn us.toArray) w:=by intro w;simp)(ht:Nat.blt t a.tmps.size=true:=by rfl)(hu:Nat.blt u a.tmps.size=true:=by rfl)(hn:Nat.beq t u=false:=by rfl)(hd:(o.dst==some t)=false:=by rfl)(ad:(o.dst==some u)=false:=by rfl)(hw:∀x y,Region.wanted o (yielded l.toArray (ax x y).tmps)=true:=by intro x y;rfl)(e:∀x y,(ax x y).put o.dst v=a' x y:=by intro x y;(try simp only[PT]);try rfl):aN P l.toArray Q (fun W=>∃z,Sep (g z) W) [(f,t),(f',u)] N T z ord2 (i::is) a w:=by
 subst hv;refine xL ht hu hn hi hl fun x y W hW _=>⟨by rw[e0];exact hw x y,fun K hK=>?_⟩
 have M1:=M.ext hW;have e1:=AX (P:=P) ho (hf x y) (hx x y) ab W;rw[Nat.blt_eq]at ht hu;have ag:t≠u:=Nat.ne_of_beq_eq_false hn;have hp:(ax x y).tmps[t]? = some x:=by rw[<-e0];simp[Act.put,ht,Array.getElem?_setIfInBounds,Ne.symm ag]
 have hq:(ax x y).tmps[u]? = some y:=by rw[<-e0];simp[Act.put,hu]
 rw[e0];unfold Oper.wp;rw[e1,Oper.upon_enter];refine(hC.out W M1.sep).mono ?_;rintro _ w2 ⟨rfl,hb⟩;refine hK.out _ _ hb ?_ ?_ (by rw[e];exact h w2 (M1.ext hb) x y)
 ·cases ac:o.dst with
  |none=>exact hp
  |some d=>
   rw[ac]at hd;have:d≠t:=by simpa using hd
   simp only[Act.put];rw[OD this];exact hp
 ·cases ac:o.dst with
  |none=>exact hq
  |some d=>
   rw[ac]at ad;have:d≠u:=by simpa using ad
   simp only[Act.put];rw[OD this];exact hq
def Gp{ax:Value->Value->Act}{xs:List Operand}{vs us cs:List Value}{ts:Array TypeId}{pe:List PanicEntry}(M:dH N As w)(h:∀W,Sep As W->∀x y,Q (.panic pe) (ax x y) W)(hi:Nat.blt i 1000=false:=by rfl)(hl:l.drop (i-1000)=o::rest:=by rfl)(e0:∀x y,(a.put (some t) x).put (some u) y=ax x y:=by intro x y;(try simp only[PT]);try rfl)(ho:o.op=.call {callee:= .value y,args:=xs.toArray,argTypes:=ts}:=by rfl)(hf:∀x z,evo (ax x z) y=some (.func (.func fn) #[] cs.toArray):=by intro x y;rfl)(hx:∀x y,evl (ax x y) xs=some vs:=by intro x y;rfl)(hv:vs++cs=us:=by(try simp only[MZ,M9,Oz]);try rfl)(hC:fC P fn us.toArray As pe:=by infer_instance)(ab:∀w,(callFunc fn us.toArray).run P w=.ok (.enter fn us.toArray) w:=by intro w;simp)(ht:Nat.blt t a.tmps.size=true:=by rfl)(hu:Nat.blt u a.tmps.size=true:=by rfl)(hn:Nat.beq t u=false:=by rfl)(hw:∀x y,Region.wanted o (yielded l.toArray (ax x y).tmps)=true:=by intro x y;rfl):aN P l.toArray Q (fun W=>∃z,Sep (g z) W) [(f,t),(f',u)] N T z ord2 (i::is) a w:=by
 subst hv;refine xL ht hu hn hi hl fun x y W hW _=>⟨by rw[e0];exact hw x y,fun K hK=>?_⟩
 rw[e0];unfold Oper.wp;rw[AX (P:=P) ho (hf x y) (hx x y) ab W,Oper.upon_enter];exact(hC.out W (M.ext hW).sep).mono fun _ W ⟨e,M'⟩=>by subst e;exact h W M' x y
def Ge{a':Nat->Nat->Act}(M:dH N As w)(h:∀b c W,Sep (.box b z T:: .box c z T::As) W->aE P l.toArray Q (fun W=>∃z,Sep (g z) W) ord2 (a' b c) W)(ht:Nat.blt t a.tmps.size=true:=by rfl)(hu:Nat.blt u a.tmps.size=true:=by rfl)(hn:Nat.beq t u=false:=by rfl)(e:∀b c,(a.put (some t) (fH b)).put (some u) (fH c)=a' b c:=by intro b c;unfold fH;(try simp only[PT]);try rfl):aN P l.toArray Q (fun W=>∃z,Sep (g z) W) [(f,t),(f',u)] N T z ord2 [] a w:=
 FP ht hu hn fun b c W hW _ hN ac ag hB ab=>by
  obtain⟨w0,rfl,M0,hb⟩:=M.ext hW;rw[e];exact h b c W (M0.push2 hb (G:=fun k=>k=b) (H:=fun k=>k=c) ⟨hB,fun _=>Iff.rfl⟩ ⟨ab,fun _=>Iff.rfl⟩ (fun k hk=>by rw[hk];exact hN) (fun k hk=>by rw[hk];exact ac) (fun k hk ad=>ag (hk.symm.trans ad)))
def mf2{id:Nat}{h:ι->List Asn}(M:Sep As w)(f t f' u:Nat)(ab ord2:List Nat)(k:∀W,dH w.heap.size As W->aN P l.toArray Q (fun W=>∃z,Sep (g z) W) [(f,t),(f',u)] w.heap.size T z ord2 ab a W)(hA:Ab As h:=by infer_instance)(e:∀z,h z=g z:=by intro z;(try simp only[PS]);try rfl)(hl:l.drop f=o::rest:=by rfl)(ho:o.op=.alloc T:=by rfl)(hz:(P.info? T).map (·.zero)=some (some (.agg z.toArray)):=by rfl)(hm:P.follows .mixedOrders=true:=by kernel_rfl)(ac:nF l [(f,t),(f',u)] T ab ord2=true:=by kernel_rfl)(hn:([(f,t),(f',u)].map (·.2)).Nodup:=by decide)(ht:([(f,t),(f',u)].all fun p=>Nat.blt p.2 a.tmps.size)=true:=by rfl)(hQ:∀(i:Nat)(o),l.toArray[i]? = some o->∀c (a:Act) (v) (w),Q (.panic c) (a.put o.dst v) w->Q (.panic c) a w:=by(intro i o _ c a v w;generalize o.dst=d;cases d <;> exact fun h=>h)):(Code.region id l.toArray true).wp P Q a w:=
 have _:=hl
 have _:=ho
 sU (S:=fun W=>∃z,Sep (g z) W) [(f,t),(f',u)] ab ord2 T z hm ac ht hn hz (fun _ _ ⟨z,h⟩ hb=>⟨z,h.ext hb⟩) (let ⟨z,hz⟩:=hA.out;⟨z,by rw[<-e,hz];exact M.drew⟩) (k _ (.of M)) hQ
def Gz{Cz}{v}{a'}(M:Sep As w)(h:∀W,Sep Cz W->aE P l.toArray Q (fun W=>∃z,Sep (g z) W) is a' W)(hi:Nat.blt i 1000=false:=by rfl)(hl:l.drop (i-1000)=o::rest:=by rfl)(hs:St P As o.op a (fun _ _=>Hid True) (fun _ _=>Cz) (fun _ _=>v):=by exact .store rfl rfl rfl (by infer_instance) (by first|exact .cell (by first|rfl|(simp;omega)) (by rfl) (by(try simp only[PT]);rfl) (by rfl)|exact .row rfl rfl (by first|rfl|exact Fct.out) (by rfl)) (by(try simp only[PS]);try rfl))(hz:∃z,g z=Cz.drop 2:=by first|exact⟨true,rfl⟩|exact⟨_,rfl⟩)(hw:Region.wanted o (yielded l.toArray a.tmps)=true:=by rfl)(e:a.put o.dst v=a':=by(try simp only[PT]);try rfl) :aE P l.toArray Q (fun W=>∃z,Sep (g z) W) (i::is) a w:=
 sc M h hi hl hs (let ⟨z,h⟩:=hz;⟨z,2,h⟩) hw e
end
def iI(k:Int):List PanicEntry:=[{v:= .iface 360 (.agg #[.int .i64 k]),recovered:=false}]
section
variable {As:List Asn} {w0:World} {a b r:Rt} {x y z:Value} {k:Int}
instance:aB prog 267 #[.agg (rtC r).toArray,.int .i64 0] As (.agg (rtC r).toArray):=⟨fun w _=>by
 have M:=Sep.new w;go_enter func267,ntmps267;go_wp2_with refine mz M fun M=>?_;exact mr M ⟨rfl,M.bel⟩⟩
instance:fC prog 267 #[.agg #[x,y,z],.int .i64 2] As (iI 2):=⟨fun w M=>by
 go_enter func267,ntmps267;go_wp2_with refine mz M fun M=>?_;exact⟨rfl,rfl,M.dr 2⟩⟩
instance[o:Old As w0][hT:Fct (Tab w0)][ha:Fct a.ok][hb:Fct b.ok]{c:Bool}[h:Is (cmpR a b) (some k)][hk:Is (decide (0<k)) c]:aB prog 270 #[.agg (rtC a).toArray,.agg (rtC b).toArray] As (.bool c):=⟨fun w M0=>by
 rw[<-hk.out];haveI hc:∀As [Old As w],aB prog 296 #[.agg (rtC a).toArray,.agg (rtC b).toArray] As (.tuple #[.int .i64 k,.int .i64 0]):=fun As _=>⟨fun W M=>by
  have:=yL a b W ha.out hb.out ((hT.1.below M0.bel).below M.bel);rwa[h.out]at this⟩
 have M:=Sep.new w;go_enter func270,ntmps270;go_wp2_with refine mz M fun M=>?_;exact mr M ⟨rfl,M.bel⟩⟩
instance[o:Old As w0][hT:Fct (Tab w0)][ha:Fct a.ok][hb:Fct b.ok][h:Is (cmpR a b) none]:fC prog 270 #[.agg (rtC a).toArray,.agg (rtC b).toArray] As (iI 2):=⟨fun w M=>by
 haveI hc:∀As [Old As w0],aB prog 296 #[.agg (rtC a).toArray,.agg (rtC b).toArray] As (.tuple #[.int .i64 0,.int .i64 2]):=fun As _=>⟨fun W M=>by
  have:=yL a b W ha.out hb.out (hT.1.below M.bel);rwa[h.out]at this⟩
 go_enter func270,ntmps270;go_wp2_with refine mz M fun M=>?_;refine mx M ?_;clear M;intro _ M;exact⟨rfl,rfl,M.dr 2⟩⟩
end
section
def massesR(s:SrcR):List aw->Option (List Rt)
 |[]=>some []
 |a::l=>match massR s a with
  |some x=>match massesR s l with
   |some m=>some (x::m)
   |none=>none
  |none=>none
def measR(s:SrcR)(l:List aw):Option Rt:=match massesR s l with
 |some ms=>sumR ms ae
 |none=>none
def AY{s}{a:aw}{x}:∀{l:List aw} {k:Nat} {m:List Rt},l[k]? = some a->massR s a=some x->massesR s (l.take k)=some m->massesR s (l.take (k+1))=some (m++[x])
 |[],_,_,h,_,_=>by simp at h
 |b::l,0,m,h,hx,hm=>by
  simp only[Oj,Option.some.injEq]at h;subst h;simp only[N3,massesR,Option.some.injEq]at hm;subst hm;simp[massesR,hx]
 |b::l,k+1,m,h,hx,hm=>by
  rw[Ok]at h;rw[Ol,massesR]at hm⊢
  cases hb:massR s b with
  |none=>rw[hb]at hm;cases hm
  |some y=>
   rw[hb]at hm
   simp only at hm⊢
   cases hl:massesR s (l.take k)with
   |none=>rw[hl]at hm;cases hm
   |some m'=>
    rw[hl]at hm
    cases hm
    rw[AY h hx hl];rfl
def AZ{s}{a:aw}:∀{l:List aw} {k:Nat},l[k]? = some a->massR s a=none->massesR s l=none
 |[],_,h,_=>by simp at h
 |b::l,0,h,ha=>by
  simp only[Oj,Option.some.injEq]at h;subst h;rw[massesR,ha]
 |b::l,k+1,h,ha=>by
  rw[Ok]at h;rw[massesR,AZ h ha]
  cases massR s b <;> rfl
def LE{s:SrcR}{a:aw}{x}(hU:bI s.units)(ab:∀i∈s.items,eE s i=true)(ha:bM s a=true)(h:massR s a=some x):x.ok:=by
 unfold massR at h;split at h
 ·rename_i y hy;split at h
  ·rename_i it hi;have:=ab it (Oc hi);unfold eE at this;simp only[btw,Ob,decide_eq_true_eq]at this;have ac:=fE;exact fB h (gJ hU ha hy).1.2.2.1 (dq (neg:=false) (n:=it.massN.toNat) (d:=it.massD.toNat)).2.2.1
  ·cases h
 ·cases h
def uO{s:SrcR}(hU:bI s.units)(ab:∀i∈s.items,eE s i=true):∀{l:List aw} {ms:List Rt},(∀a∈l,bM s a=true)->massesR s l=some ms->(∀x∈ms,x.ok)/\ms.length=l.length
 |[],ms,_,h=>by simp only[massesR,Option.some.injEq]at h;subst h;simp
 |a::l,ms,ha,h=>by
  simp only[massesR]at h;split at h
  ·rename_i x hx;split at h
   ·rename_i m hm
    cases h;obtain⟨h1,h2⟩:=uO hU ab (fun b hb=>ha b (by simp[hb])) hm;refine⟨fun y hy=>?_,by simp[h2]⟩;rcases Og.1 hy with rfl|hy
    ·exact LE hU ab (ha a (by simp)) hx
    ·exact h1 y hy
   ·cases h
  ·cases h
def orE:Option Rt->Ending
 |some r=> .returned (.agg (rtC r).toArray)
 |none=> .panicked (iI 2)
attribute [local simp] calcV
section
def LF(s)(l:List aw)(lv)(sb:Nat)(w)(hS:ap w s)(hU:bI s.units)(ac:∀i∈s.items,eE s i=true)(hl:ah w lv aw 7 l aG)(ha:∀a∈l,bM s a=true)(hK:Blk w sb (srcC s) 31)(hT:Tab w) :Calls prog 266 #[lv,.pointer sb] w fun e W=>e=orE (measR s l)/\eB w W:=by
 have hE:Hid (∀W,eB w W->W.rangeAt sb 0 (srcC s)):=fun W hW=>ai (hK.below hW hK.lt);have M:=Sep.new w;have ag:=hl.le;obtain⟨fo,ab⟩:=nm (measR s l);rw[ab];replace ab:=MY ab;go_enter func266,ntmps266;go_wp2_with refine mz M fun M=>?_;replace M:=M.nilR 37 3;go_loopw [4,9] (fun v z W=>∃(k:Nat)(m:List Rt),k<=l.length/\z=.int .i64 k/\Hid (massesR s (l.take k)=some m)/\Hid (m.length<=k)/\M.r1 0 v (m.map rtC) W) (fun _ z _=>l.length-(intOf z).toNat)
 case atStart=>exact⟨0,[],Nu _,rfl,rfl,No _,M⟩
 obtain⟨k,m,hk,rfl,HM,HL,M⟩:=hrel;simp only[Sep.r1,upR]at M;by_cases ad:k<l.length
 ·obtain⟨a,hx⟩:=gx (l:=l) (i:=k) ad;haveI hm:∀As [Old As w],aB prog 268 #[.agg (srcC s).toArray,.agg (aG a).toArray] As (calcV (massR s a)):=fun As _=>⟨fun W M=>Gh s a W (hS.below M.bel) hU ac (ha a (Oc hx)) (hT.below M.bel)⟩
  have hL:(m.map rtC).length<=16777216:=by rw[N6];have:=HL.out;omega
  obtain⟨o,ho⟩:=nm (massR s a);rw[ho]at hm
  cases o
  case none=>
   have hf:fo=none:=by rw[<-ab.out];unfold measR;rw[AZ hx ho]
   subst hf;clear ho ab;simp only[calcV]at hm;go_wp2_with(first|refine mz M fun M=>?_|refine mp M fun M=>?_|refine mv M fun M=>?_);refine mx M ?_;exact fun _ M=>⟨rfl,rfl,M.bel⟩
  case some r=>
   have HN:=MY (AY hx ho HM.out);clear ho ab;simp only[calcV]at hm;go_wp2_with(first|refine mz M fun M=>?_|refine mp M fun M=>?_|refine mv M fun M=>?_);go_roundw
   case rel=>exact⟨k+1,m++[r],by omega,by go_num,HN,by show _<=_;rw[Oe];have:=HL.out;simp;omega,by rw[N9];exact M.dr 2⟩
   case measure=>simp[intOf];omega
 obtain rfl:k=l.length:=by omega
 have hm:massesR s l=some m:=by have:=HM.out;rwa[Ny (No _)]at this
 obtain⟨h1,h2⟩:=uO hU ac ha hm;haveI hs:∀As [Old As w] v,aB prog 269 #[v] (.row v 37 3 (m.map rtC)::As) (calcV (sumR m ae)):=fun As _ v=>⟨fun W M=>EJ v m W (show aa W 0 37 3 v (m.map rtC)from M.own (i:=0) ⟨rfl⟩).row h1 (by omega) (hT.below M.bel)⟩
 have hf:fo=sumR m ae:=by rw[<-ab.out];unfold measR;rw[hm]
 obtain⟨o,ho⟩:=nm (sumR m ae);rw[ho]at hs hf;subst hf;clear ho ab hm h1 h2
 cases fo
 case none=>
  simp only[calcV]at hs;go_wp2_with refine mz M fun M=>?_;refine mx M ?_;exact fun _ M=>⟨rfl,rfl,M.bel⟩
 case some r=>
  simp only[calcV]at hs;go_wp2_with refine mz M fun M=>?_;exact mr M ⟨rfl,M.bel⟩
section
variable {As:List Asn} {w0:World} {s:SrcR} {l:List aw} {lv:Value} {sb:Nat} {r:Rt}
class my(w:World)(sb:Nat)(l:List aw)(s:outParam SrcR):Prop where
 src:ap w s
 units:bI s.units
 items:∀i∈s.items,eE s i=true
 amts:∀a∈l,bM s a=true
 blk:Blk w sb (srcC s) 31
 tab:Tab w
def my.call(h:my w0 sb l s)(hl:ah w0 lv aw 7 l aG){w}(hb:eB w0 w):Calls prog 266 #[lv,.pointer sb] w fun e W=>e=orE (measR s l)/\eB w W:=
 LF s l lv sb w (h.src.below hb) h.units h.items ⟨hl.1.below hb,hl.le⟩ h.amts (h.blk.below hb h.blk.lt) (h.tab.below hb)
instance[o:Old As w0][hl:ah w0 lv aw 7 l aG][h:my w0 sb l s][e:Is (measR s l) (some r)]:aB prog 266 #[lv,.pointer sb] As (.agg (rtC r).toArray):=⟨fun w M=>by
 have:=h.call hl M.bel;rwa[e.out]at this⟩
instance[o:Old As w0][hl:ah w0 lv aw 7 l aG][h:my w0 sb l s][e:Is (measR s l) none]:fC prog 266 #[lv,.pointer sb] As (iI 2):=⟨fun w M=>by
 have:=h.call hl M.bel;rw[e.out]at this;exact this.mono fun _ _ ⟨h1,h2⟩=>⟨h1,M.ext h2⟩⟩
end
end
end
section
def jO(s:SrcR)(r:RecR):Option (Rt×Bool):=
 (measR s r.ins).bind fun i=>(measR s r.outs).bind fun o=>(mulR (lowR false r.yieldN.toNat r.yieldD.toNat) i).bind fun ex=>(subR o ex).bind fun dv=>(mulR (lowR false r.tolN.toNat r.tolD.toNat) i).bind fun mo=>(subR (lowR false 0 1) dv).bind fun ng=>(cmpR dv mo).bind fun g=>
  if 0<g then some (dv,true)else(cmpR ng mo).map fun h=>(dv,decide (0<h))
def kQ(d:Rt×Bool):List Value:=[.bool d.1.neg,.string (bs d.1.n),.string (bs d.1.d),.bool d.2]
def uP:Option (Rt×Bool)->Ending
 |some d=> .returned (.agg (kQ d).toArray)
 |none=> .panicked (iI 2)
def LG{s}{r}(h:bG s r=true):∃yn yd tn td:Nat,r.yieldN=yn/\r.yieldD=yd/\r.tolN=tn/\r.tolD=td/\0<yd/\yn<=1048576/\yd<=1048576/\0<td/\tn<=1048576/\td<=1048576:=by
 unfold bG kj at h;simp only[btw,Ob,decide_eq_true_eq]at h;obtain⟨_,_,_,_,⟨_,h1,h2⟩,⟨h3,h4⟩,_⟩:=h;exact⟨r.yieldN.toNat,r.yieldD.toNat,r.tolN.toNat,r.tolD.toNat,by omega,by omega,by omega,by omega,by omega,by omega,by omega,by omega,by omega,by omega⟩
def Ba{s:SrcR}{l:List aw}{x}(hU:bI s.units)(ab:∀i∈s.items,eE s i=true)(ha:∀a∈l,bM s a=true)(h:measR s l=some x):x.ok:=by
 unfold measR at h;split at h
 ·rename_i ms hm;exact Es jy (uO hU ab ha hm).1 h
 ·cases h
section
variable {As:List Asn} {w0:World} {a b c:Rt}
instance[Old As w0][hT:Fct (Tab w0)][ha:Fct a.ok][hb:Fct b.ok][h:Is (mulR a b) (some c)]:aB prog 15 #[.agg (rtC a).toArray,.agg (rtC b).toArray] As (.tuple #[.agg (rtC c).toArray,.int .i64 0]):=⟨fun W M=>by have:=jA a b W ha.out hb.out (hT.1.below M.bel);rwa[h.out]at this⟩
instance[Old As w0][hT:Fct (Tab w0)][ha:Fct a.ok][hb:Fct b.ok][h:Is (mulR a b) none]:aB prog 15 #[.agg (rtC a).toArray,.agg (rtC b).toArray] As (calcV none):=⟨fun W M=>by have:=jA a b W ha.out hb.out (hT.1.below M.bel);rwa[h.out]at this⟩
instance[Old As w0][hT:Fct (Tab w0)][ha:Fct a.ok][hb:Fct b.ok][h:Is (subR a b) (some c)]:aB prog 13 #[.agg (rtC a).toArray,.agg (rtC b).toArray] As (.tuple #[.agg (rtC c).toArray,.int .i64 0]):=⟨fun W M=>by have:=lq a b W ha.out hb.out (hT.1.below M.bel);rwa[h.out]at this⟩
instance[Old As w0][hT:Fct (Tab w0)][ha:Fct a.ok][hb:Fct b.ok][h:Is (subR a b) none]:aB prog 13 #[.agg (rtC a).toArray,.agg (rtC b).toArray] As (calcV none):=⟨fun W M=>by have:=lq a b W ha.out hb.out (hT.1.below M.bel);rwa[h.out]at this⟩
end
attribute [local simp] calcV
def LH(s)(r)(sb:Nat)(w)(hS:ap w s)(hR:aQ w r)(hB:bG s r=true)(hU:bI s.units)(ac:∀i∈s.items,eE s i=true)(hK:Blk w sb (srcC s) 31)(hT:Tab w) :Calls prog 246 #[.agg (am r).toArray,.func (.func 266) #[] #[.pointer sb]] w fun e W=>e=uP (jO s r)/\eB w W:=by
 haveI H1:my w sb r.ins s:=⟨hS,hU,ac,(kx hB).1,hK,hT⟩
 haveI H2:my w sb r.outs s:=⟨hS,hU,ac,(kx hB).2,hK,hT⟩
 haveI:=Fct.mk hR;haveI:=Fct.mk hT;obtain⟨yn,yd,tn,td,ao,an,al,ag,y1,y2,y3,t1,t2,t3⟩:=LG hB;have ad:=fE;haveI Y:∀As [Old As w],aB prog 33 #[.int .i64 r.yieldN,.int .i64 r.yieldD] As (.tuple #[.agg (rtC (lowR false yn yd)).toArray,.int .i64 0]):=fun As _=>⟨fun W M=>by rw[ao,an];exact ej yn yd W (by omega) (by omega) (by omega) (hT.below M.bel)⟩
 haveI T:∀As [Old As w],aB prog 33 #[.int .i64 r.tolN,.int .i64 r.tolD] As (.tuple #[.agg (rtC (lowR false tn td)).toArray,.int .i64 0]):=fun As _=>⟨fun W M=>by rw[al,ag];exact ej tn td W (by omega) (by omega) (by omega) (hT.below M.bel)⟩
 haveI Z:∀As [Old As w],aB prog 33 #[.int .i64 0,.int .i64 1] As (.tuple #[.agg (rtC (lowR false 0 1)).toArray,.int .i64 0]):=fun As _=>⟨fun W M=>ej 0 1 W (by omega) (by omega) (by omega) (hT.below M.bel)⟩
 haveI y0:=Fct.mk (dq (neg:=false) (n:=yn) (d:=yd));haveI t0:=Fct.mk (dq (neg:=false) (n:=tn) (d:=td));haveI z0:=Fct.mk (dq (neg:=false) (n:=0) (d:=1));obtain⟨fo,ab⟩:=nm (jO s r);rw[ab];unfold jO at ab;rw[ao,an,al,ag]at ab;simp only[NI]at ab;have O1:=MY (fun x (h:measR s r.ins=some x)=>Ba hU ac (kx hB).1 h);have O2:=MY (fun x (h:measR s r.outs=some x)=>Ba hU ac (kx hB).2 h);have M:=Sep.new w;clear ao an al ag y1 y2 y3 t1 t2 t3 ad hS hR hB hU ac hK hT;generalize lowR false yn yd=yy at *;generalize lowR false tn td=tt at *;generalize lowR false 0 1=zz at *;rcases h1:measR s r.ins with _|i
 case' some=>rcases h2:measR s r.outs with _|o
 all_goals
  rw[h1]at ab
  haveI:=Is.mk h1
 all_goals try(rw[h2]at ab;haveI:=Is.mk h2)
 all_goals
  simp only[Option.bind_some,Option.bind_none]at ab
  replace ab:=MY ab
  go_enter func246,ntmps246
  go_wp2_with refine mz M fun M=>?_
  refine mf2 M 8 5 9 6 [0,1,2,4,5,6,1003,1007] [1010,1011] fun _ M=>?_
  repeat(first|refine Gq fun _ _=>?_|refine Gc M fun _ M _ _=>?_|refine Ge M fun _ _ _ M=>?_|refine GQ fun _ _=>?_|refine Gz M fun _ M=>?_|refine Gp M fun _ M _ _=>?_|refine sz M fun M=>?_|refine sj M fun M=>?_|refine sv M fun M=>?_|refine sp M fun M=>?_|refine sQ ?_)
  try refine aj ?_
 all_goals try exact⟨rfl,by rw[<-ab.out];rfl,M.bel⟩
 haveI oi:=Fct.mk (O1.out _ h1);haveI oo:=Fct.mk (O2.out _ h2);clear h1 h2 O1 O2 H1 H2;go_wp2_with refine mz M fun M=>?_;rcases h:mulR yy i with _|ex;all_goals
  replace ab:=ab.out
  rw[h]at ab
  simp only[Option.bind_some,Option.bind_none]at ab
  replace ab:=MY ab
  haveI:=Is.mk h
  refine mf M 13 7 [0,1,2,3,8,1004,5,6,1007,1009,10,11,1012] [1014] fun _ M=>?_
  repeat(first|refine fq fun _=>?_|refine fi fun _ _ _ _=>?_|refine fc M fun _ M _=>?_|refine fe M fun _ _ M=>?_|refine fQ fun _=>?_|refine fz M fun _ M=>?_|refine fx M fun _ M _=>?_|refine sz M fun M=>?_|refine sj M fun M=>?_|refine sv M fun M=>?_|refine sp M fun M=>?_|refine sQ ?_)
  try refine aj ?_
 all_goals try exact⟨rfl,by rw[<-ab.out];rfl,M.bel⟩
 haveI oe:=Fct.mk (fB h y0.1.2.2.1 oi.1.2.2.1);clear h;rcases h:subR o ex with _|dv;all_goals
  replace ab:=ab.out
  rw[h]at ab
  simp only[Option.bind_some,Option.bind_none]at ab
  replace ab:=MY ab
  haveI:=Is.mk h
  go_wp2_with refine mz M fun M=>?_
 ·exact mx M fun _ M=>⟨rfl,by rw[<-ab.out];rfl,M.bel⟩
 haveI od:=Fct.mk (py h oo.out oe.out);clear h;rcases h:mulR tt i with _|mo;all_goals
  replace ab:=ab.out
  rw[h]at ab
  simp only[Option.bind_some,Option.bind_none]at ab
  replace ab:=MY ab
  haveI:=Is.mk h
  refine mf M 13 8 [0,1,2,3,8,1004,5,6,1007,1009,10,11,1012] [1014] fun _ M=>?_
  repeat(first|refine fq fun _=>?_|refine fi fun _ _ _ _=>?_|refine fc M fun _ M _=>?_|refine fe M fun _ _ M=>?_|refine fQ fun _=>?_|refine fz M fun _ M=>?_|refine fx M fun _ M _=>?_|refine sz M fun M=>?_|refine sj M fun M=>?_|refine sv M fun M=>?_|refine sp M fun M=>?_|refine sQ ?_)
  try refine aj ?_
 all_goals try exact⟨rfl,by rw[<-ab.out];rfl,M.bel⟩
 haveI om:=Fct.mk (fB h t0.1.2.2.1 oi.1.2.2.1);clear h;go_wp2_with refine mz M fun M=>?_;rcases h:subR zz dv with _|ng;all_goals
  replace ab:=ab.out
  rw[h]at ab
  simp only[Option.bind_some,Option.bind_none]at ab
  replace ab:=MY ab
  haveI:=Is.mk h
  refine mf M 10 9 [4,5,1000,1,2,1003,1006,7,8,1009] [1011] fun _ M=>?_
  repeat(first|refine fq fun _=>?_|refine fi fun _ _ _ _=>?_|refine fc M fun _ M _=>?_|refine fe M fun _ _ M=>?_|refine fQ fun _=>?_|refine fz M fun _ M=>?_|refine fx M fun _ M _=>?_|refine sz M fun M=>?_|refine sj M fun M=>?_|refine sv M fun M=>?_|refine sp M fun M=>?_|refine sQ ?_)
  try refine aj ?_
 all_goals try exact⟨rfl,by rw[<-ab.out];rfl,M.bel⟩
 haveI on:=Fct.mk (py h z0.out od.out);clear h;rcases h:cmpR dv mo with _|g;all_goals
  replace ab:=ab.out
  rw[h]at ab
  simp only[Option.bind_some,Option.bind_none]at ab
  replace ab:=MY ab
  haveI:=Is.mk h
 ·go_wp2_with refine mz M fun M=>?_;exact mx M fun _ M=>⟨rfl,by rw[<-ab.out];rfl,M.bel⟩
 replace ab:=ab.out;rcases hg:decide (0<g)with _|_
 ·rw[if_neg (by simpa using hg)]at ab;haveI:=Is.mk hg;rcases h':cmpR ng mo with _|k;all_goals
   rw[h']at ab
   haveI:=Is.mk h'
  ·subst ab;go_wp2_with refine mz M fun M=>?_;exact mx M fun _ M=>⟨rfl,rfl,M.bel⟩
  simp only[Option.map_some]at ab;rcases hk:decide (0<k)with _|_;all_goals
   rw[hk]at ab
   haveI:=Is.mk hk
   subst ab
   go_wp2_with refine mz M fun M=>?_
   exact mr M ⟨rfl,M.bel⟩
 rw[if_pos (by simpa using hg)]at ab;subst ab;haveI:=Is.mk hg;go_wp2_with refine mz M fun M=>?_;exact mr M ⟨rfl,M.bel⟩
end
section
attribute [local go_sem] Oper.semAt_some
abbrev DvT:Type:=Nat×(Rt×Bool)
def dvE(x:DvT):Array Value:=#[.int .i64 (x.1:Int),.agg (kQ x.2).toArray]
def ra(s:SrcR)(k:Nat)(xs:List DvT):Prop:=xs.length=k/\∀i r,i<k->s.recs[i]? = some r->∃d,xs[i]? = some (i,d)/\jO s r=some d
def uQ(s:SrcR)(xs:List DvT):Prop:=∃pre i r d,xs=pre++[(i,d)]/\s.recs[i]? = some r/\jO s r=some d
def uR(s:SrcR)(c:List PanicEntry):Prop:=c=iI 2/\∃r∈s.recs,jO s r=none
def LJ(s)(w):Calls prog 245 #[.agg (srcC s).toArray] w fun e w'=>e=.returned (.func (.func 266) #[] #[.pointer w.heap.size])/\w.alloc (.cells (srcC s).toArray 31)=w':=by
 have ac:=mF;have ad:(srcC s).toArray.size=8:=rfl;obtain⟨W1,ab⟩:=nm (w.alloc (.cells (srcC s).toArray 31));go_enter func245,ntmps245;go_wp2;go_ret;exact⟨rfl,ab⟩
def LK(nn l B:Nat)(s)(w W)(J Jx:List DvT->World->Prop)(hS:ap w s)(ht:TypesOk s)(hB:Blk w B (srcC s) 31)(hT:Tab w)(hW:eB w W)(hJ:AbX W.heap.size 31 J)(hY:∀pre x W1,J pre W1->pre.length<1048577->YieldAt Fence.wide (nn-1) prog l (dvE x) W1 fun e W'=>(e=.returned (.bool true)/\J (pre++[x]) W'/\aI 31 W1 W'/\(w.heap.size<=W1.heap.size->Below w.heap.size W1 W')/\KeepsWalks W1 W')\/(e=.returned (.bool false)/\Jx (pre++[x]) W'))(h0:J [] W) :CallsIn Fence.wide nn prog 244 #[.func (.yield l) #[] #[],.pointer B] W fun e W'=>((∃v,e=.returned v)/\((∃xs,ra s s.recs.length xs/\J xs W')\/(∃xs,uQ s xs/\Jx xs W')))\/(∃c xs,e=.panicked c/\uR s c/\J xs W'):=by
 have bt:=nT;have HY:=MY hY;have HJ:=MY hJ;have ad:∀r∈s.recs,bG s r=true:=by
  have:=ht.2.2;unfold fF at this;simp only[Ob,Od]at this;exact this.2.2.2.2.1
 have ab:∀i∈s.items,eE s i=true:=by
  have:=ht.2.2;unfold fF at this;simp only[Ob,Od]at this;exact this.1
 have bg:=MY (fun r (hr:r∈s.recs) sb V (hV:eB w V) (hK:Blk V sb (srcC s) 31)=>LH s r sb V (hS.below hV) ((hS.recv r hr).below hV) (ad r hr) ht.1 ab hK (hT.below hV));have al:=MY (fun r (hr:r∈s.recs)=>io (hS.recv r hr));have ac:=MY hS.recs;obtain⟨F,cap,e7,_⟩:=hS.recs;obtain⟨n,hn⟩:=nm s.recs.length;have hl:=hS.rl;unfold BIG at hl;rw[N6,hn]at e7;rw[hn]at hl⊢;have E7:=MY e7;have HN:=MY hn;have KB:=MY (fun V (hV:eB w V)=>hB.below hV hB.lt);have K1:=KB.out W hW;have x6:=(K1.at 6 _ rfl).1;rw[e7]at x6;have bh:=MY K1;obtain⟨W1,an⟩:=nm (W.alloc (.cells (srcC s).toArray 31));obtain⟨mb,ax⟩:=nm W.heap.size;have M1:=MY (Blk.new W (srcC s) 31);have J1:=MY (hJ.belowJ h0 (ak W (.cells (srcC s).toArray 31)));have B1:=MY (hW.trans ((ak W (.cells (srcC s).toArray 31)).mono hW.size));have bk:=MY (show W.heap.size<=W1.heap.size by rw[<-an];simp);rw[an]at M1 J1 B1;rw[ax]at M1 bk;have bv:=(KB.out W1 B1.out |>.at 6 _ rfl).1;rw[e7]at bv;refine callsIn_of_wp func244 rfl trivial ?_ rfl;simp only[ntmps244,NV,M6,ND,Nat.reduceAdd,Nat.reduceSub,NZ,N0,N1,N2,M9,MZ];refine wpIn_wide.2 ?_;go_wp2_with (refine wR 31 (ai bh.out) ?_);refine(LJ s W).mono ?_;rintro e w1 ⟨rfl,rfl⟩;rw[an,ax];go_wp2_with fail
 go_loopw [11] (fun z V=>∃(k:Nat)(pre:List DvT),k<=n/\z=.int .i64 k/\Hid (ra s k pre)/\Hid (J pre V)/\Hid (Blk V mb (srcC s) 31)/\Hid (eB w V)) (fun z _=>n-(intOf z).toNat)
 case atStart=>exact⟨0,[],Nu _,rfl,⟨rfl,fun i r h=>absurd h (Nat.not_lt_zero _)⟩,J1.out,M1.out,B1.out⟩
 case round=>
  obtain⟨k,pre,hk,rfl,HD,ar,M,BW⟩:=hrel;by_cases ca:k<n
  case neg=>
   obtain rfl:n=k:=by omega
   go_wp2_with fail;go_end0;exact Or.inl ⟨⟨_,rfl⟩,Or.inl ⟨pre,HD.out,ar.out⟩⟩
  obtain⟨r,hr⟩:=gx (l:=s.recs) (i:=k) (by have:=HN.out;omega);have ba:=Oc hr;obtain⟨bb,off,rfl,bu⟩:=ac.rng E7.out (i:=k) (x:=am r) (by rw[Ou,hr];rfl);have bi:=MY (bu wr BW.out);obtain⟨bw,bx⟩:=ix (k:=k) (n:=n);obtain⟨rb,aA⟩:=nm wr.heap.size;obtain⟨WA,av⟩:=nm (wr.alloc (.cells (am r).toArray 55));have JA:=MY (HJ.belowJ ar.out (ak wr (.cells (am r).toArray 55)));have MA:=MY (M.alloc (.cells (am r).toArray 55));have BA:=MY (BW.alloc BW.size (.cells (am r).toArray 55));have XA:=MY (Blk.new wr (am r) 55);rw[av]at JA MA BA XA;rw[aA]at XA;have HR:=MY hr;have bl:=MY (al.out r ba);have be:=MY (bg.out r ba mb WA BA.out MA.out);go_upto_region 4 with(first|(refine wR 55 bi.out ?_)|(refine wA aA _ bl.out ?_))
  change Code.wp _ _ _ _ (wr.alloc (.cells (am r).toArray 55));rw[av];simp only[PT];have x0:=(XA.at 0 _ rfl).1;have x1:=(XA.at 1 _ rfl).1;have x2:=(XA.at 2 _ rfl).1;have x3:=(XA.at 3 _ rfl).1;have x4:=(XA.at 4 _ rfl).1;have x5:=(XA.at 5 _ rfl).1;have x6:=(XA.at 6 _ rfl).1;have x7:=(XA.at 7 _ rfl).1;have x8:=(XA.at 8 _ rfl).1;have x9:=(XA.at 9 _ rfl).1;have cb:=(XA.at 10 _ rfl).1;have cc:=(XA.at 11 _ rfl).1;have cd:=(XA.at 12 _ rfl).1;have cf:=(XA.at 13 _ rfl).1;have ch:=(XA.at 14 _ rfl).1;have ci:=(XA.at 15 _ rfl).1;have cl:=(XA.at 16 _ rfl).1;refine(wpIn_wide (n:=nn)).1 ?_;gi_wp2;refine⟨trivial,fun e=>by simp[Fence.wide]at e,(callsIn_wide.2 be.out).mono ?_⟩;rintro e w1 ⟨h1,ao⟩;have J1:=MY (HJ.belowJ JA.out ao);have M1:=MY (MA.below ao MA.lt);have B1:=MY (BA.trans (ao.mono BA.size))
  cases hd:jO s r with
  |none=>
   rw[hd]at h1
   simp only[uP]at h1
   subst h1
   have ag:=MY (show uR s (iI 2)from⟨rfl,r,Oc HR.out,hd⟩)
   exact⟨rfl,Or.inr ⟨_,pre,rfl,ag.out,J1.out⟩⟩
  |some d=>
   rw[hd]at h1
   simp only[uP]at h1
   subst h1
   have bc:=MY (show ra s (k+1) (pre++[(k,d)])from by
    obtain⟨h1,h2⟩:=HD.out;refine⟨by simp[h1],fun i q hi hq=>?_⟩;by_cases e:i=k
    ·subst e;rw[HR.out]at hq
     cases hq;exact⟨d,by rw[N5 (by omega),h1];simp,hd⟩
    ·obtain⟨d',bn,bo⟩:=h2 i q (by omega) hq;exact⟨d',by rw[N4 (by rw[h1];omega)];exact bn,bo⟩)
   have bd:=MY (show uQ s (pre++[(k,d)])from⟨pre,k,r,d,rfl,HR.out,hd⟩)
   obtain⟨fn,tmps,assign,body,hy,hR⟩:=HY.out pre (k,d) w1 J1.out (by have:=HD.1;omega)
   change (Instr.yield l #[.int .i64 (k:Int),.agg (kQ d).toArray]).run _ w1=_ at hy
   gi_wp2
   refine⟨fun e=>by simp[Fence.wide]at e,hR.mono ?_⟩
   rintro e W3 (⟨rfl,bp,bs,bm,_⟩|⟨rfl,br⟩)
   ·have J3:=MY bp
    have M3:=MY (show Blk W3 mb (srcC s) 31 from bs mb _ _ M1.out)
    have B3:=MY (B1.trans (bm B1.size))
    gi_wp2_with fail
    go_wp2_with fail
    refine⟨⟨k+1,_,by omega,by go_num,bc.out,J3.out,M3.out,B3.out⟩,?_⟩
    simp[intOf];omega
   ·have JX:=MY br
    gi_wp2_with fail
    go_wp2_with fail
    refine bodyPost_ret (v:= .tuple #[]) (by simp[results,results244]) rfl ?_
    exact Or.inl ⟨⟨_,rfl⟩,Or.inr ⟨_,bd.out,JX.out⟩⟩
end
end Go.Proofs.YtgbbhcbkldhjiaaGreatDoor
