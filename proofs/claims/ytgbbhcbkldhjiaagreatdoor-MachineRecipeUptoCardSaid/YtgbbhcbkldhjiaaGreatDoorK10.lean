import Derived.Test.YtgbbhcbkldhjiaaGreatDoorK05
import Derived.Shelf.Small.Bits
import Derived.Shelf.Sort.Plain
import Derived.Shelf.Bits.Mul64
import Derived.Ground.Names2Prog
import Derived.Shelf.Slices.Clone
import Derived.Shelf.Slices.CompactI
import Derived.Shelf.Slices.SearchI
import Derived.Shelf.Slices.Cells
import Derived.Shelf.Slices.In.SortNone
import Derived.Ground.SlgnProg
import Derived.Shelf.SlicesE.Clone
import Derived.Shelf.SlSortCmp.WholeK
import Derived.Ground.SlsfProg
import Derived.Sort.Grow
import Derived.Sort.OwnSortedInts
import Derived.Scope
set_option linter.all false
set_option maxRecDepth 100000
set_option maxHeartbeats 16000000
namespace Go.Proofs.YtgbbhcbkldhjiaaGreatDoor
open Go.Proofs.Tryz Go.RowKit Bf
section
open Go.ChangeMaps (setBlock)
def uj:∀(n:Nat)(is:List Nat),is.Nodup->(∀i∈is,i<n)->is.length<=n
 |0,is,_,h=>by
  cases is with
  |nil=>simp
  |cons a l=>have:=h a (by simp);omega
 |n+1,is,hn,h=>by
  have h1:=uj n (is.erase n) (hn.erase n) (fun i hi=>by
   have h2:=(List.Nodup.mem_erase_iff hn).1 hi;have:=h i h2.2;have:=h2.1;omega)
  have:=List.length_erase_le (a:=n) (l:=is);by_cases hm:n∈is
  ·rw[List.length_erase_of_mem hm]at h1;omega
  ·rw[List.erase_of_not_mem hm]at h1;omega
def qK(W:World)(r:Nat):Nat:=match W.heap[r]? with|some (.mapIter _ _ seen _)=>seen.size|_=>0
def qL{W}{b r:Nat}{kv:List (Value×Value)}{is:List Nat}(h:jK W b r kv is):qK W r=is.length:=by
 unfold qK;rw[h.it];simp
structure KSt{α:Type}(w:World)(b r:Nat)(kv:List (Value×Value))(ks:List α)(J:List α->World->Prop)(is:List Nat)(V:World):Prop where
 jj:J (is.filterMap (ks[·]?)) V
 it:jK V b r kv is
 below:eB w V
def AbX.stepJ{α:Type}{D r:Nat}{T}{J:List α->World->Prop}(hJ:AbX D T J){s:List α}{V V1}(h:J s V){m:Option Nat}{a c:Nat}{l:Array Nat}(hr:V.heap[r]? = some (.mapIter m a l c))(hD:D<=r)(o:Obj)(h1:V1=V\/V1=V.drew):J s (setBlock V1 r o):=
 hJ s V _ (some r) h (by
  have:=lY V1 r o;rcases h1 with rfl|rfl
  ·exact this
  ·exact⟨this.os,this.tape,this.output,this.size,this.block⟩) (fun r' e=>by cases e;exact⟨hD,_,hr,.inl rfl⟩)
def zG{α:Type}{ks:List α}{is:List Nat}{i:Nat}{x:α}(h:ks[i]? = some x):(is++[i]).filterMap (ks[·]?)=is.filterMap (ks[·]?)++[x]:=by
 rw[List.filterMap_append];simp[h]
def zH{α:Type}{ks:List α}{is:List Nat}:(is.filterMap (ks[·]?)).length<=is.length:=List.length_filterMap_le _ _
def zI{α:Type}{enc:α->Value}{ks:List α}{kv:List (Value×Value)}(h:kv.map (·.1)=ks.map enc){i:Nat}{p:Value×Value}(hp:kv[i]? = some p):∃x,ks[i]? = some x/\p.1=enc x:=by
 have e:(kv.map (·.1))[i]? = some p.1:=by rw[Ou,hp];rfl
 rw[h,Ou]at e
 cases hx:ks[i]? with
 |none=>rw[hx]at e;cases e
 |some x=>rw[hx]at e;exact⟨x,rfl,(Option.some.inj e).symm⟩
def jg{α:Type}{enc:α->Value}{ks:List α}{kv:List (Value×Value)}(h:kv.map (·.1)=ks.map enc):kv.length=ks.length:=by
 have:=congrArg List.length h;simpa using this
def Below.stepB{D r:Nat}{w V V1}(h:Below D w V)(hr:D<=r)(o:Obj)(h1:V1=V\/V1=V.drew):Below D w (setBlock V1 r o):=by
 rcases h1 with rfl|rfl
 ·exact Below.setB h hr o
 ·exact Below.setB h.drew hr o
end
section
open Go.ChangeMaps (setBlock)
attribute [local go_sem] Oper.semAt_some
def fP(x:Int):Value:= .int .i64 x
def Jc(nn l B b T:Nat)(kv:List (Value×Value))(ks:List (Int))(w W)(J:List (Int)->World->Prop)(hB:Blk w B [.map (some b)] 305)(hM:aK w b kv)(bb:kv.map (·.1)=ks.map fP)(hW:eB w W)(hJ:AbX W.heap.size T J)(hY:∀pre x W1,J pre W1->pre.length<kv.length->YieldAt Fence.wide (nn-1) prog l #[fP x] W1 fun e W'=>e=.returned (.bool true)/\J (pre++[x]) W'/\aI T W1 W'/\Below w.heap.size W1 W'/\KeepsWalks W1 W')(h0:J [] W) :CallsIn Fence.wide nn prog 243 #[.func (.yield l) #[] #[],.pointer B] W fun e W'=>(∃v,e=.returned v)/\∃xs:List (Int),xs.Perm ks/\J xs W':=by
 have bc:=nT;have HY:=MY hY;have HJ:=MY hJ;have HM:=MY hM;have ac:=MY bb;have ad:=MY (hM.below hW hM.lt);have q0:=((hB.below hW hB.lt).at 0 _ rfl).1;have HW:=MY hW;have S0:Hid (KSt w b W.heap.size kv ks J [] (W.alloc (.mapIter (some b) kv.length #[] kv.length))):=by
  refine⟨hJ _ W _ none h0 (ON W _ none) (fun r e=>by cases e),⟨N8 W _,(NT _ _ _ ad.lt).trans ad.out,List.nodup_nil,by simp⟩,hW.trans ((NB _ W).alloc hW.size _)⟩
 refine callsIn_of_wp func243 rfl trivial ?_ rfl;simp only[ntmps243,NV,M6,ND,Nat.reduceAdd,Nat.reduceSub,NZ,N0,N1,N2,M9,MZ];refine wpIn_wide.2 ?_;go_wp2_with (refine zo underlying305 rfl (.tmp 4) rfl b rfl kv ad.out ?_);simp only[PT];go_loopw [3] (fun _ V=>∃(is:List Nat),Hid (KSt w b W.heap.size kv ks J is V)) (fun _ V=>kv.length-qK V W.heap.size)
 case atStart=>exact⟨_,S0.out⟩
 case round=>
  obtain⟨is,S⟩:=hrel;have HL:=MY (qL S.it);go_upto_region 1 with fail;refine wp_region_lit ?_;refine zp rfl (.tmp 5) rfl b W.heap.size rfl kv is S.it ?_ ?_
  ·intro ag;have HP:=MY (zq (ks:=ks) S.it.nd (fun i hi=>by rw[<-jg ac.out];exact S.it.lt i hi) (fun i hi=>ag i (by rw[jg ac.out];exact hi)));simp only[PT];go_wp2_with fail;refine bodyPost_end (results_none rfl _ _ _) rfl ?_;exact⟨⟨_,rfl⟩,_,HP.out,S.jj⟩
  ·intro i p w1 hp ar hI;obtain⟨x,hx,ao⟩:=zI ac.out hp;have S1:Hid (J (is.filterMap (ks[·]?)) (setBlock w1 W.heap.size (.mapIter (some b) kv.length (is.toArray.push i) kv.length))):=HJ.stepJ S.jj S.it.it (No _) _ ar;have S2:Hid (eB w (setBlock w1 W.heap.size (.mapIter (some b) kv.length (is.toArray.push i) kv.length))):=Below.stepB S.below HW.size _ ar;have HI:=MY hI;have HP:=MY hp;have HX:=MY hx;have al:(is++[i]).length<=kv.length:=uj _ _ hI.nd hI.lt;have ab:=MY al;obtain⟨W2,aA⟩:=nm (setBlock w1 W.heap.size (.mapIter (some b) kv.length (is.toArray.push i) kv.length));rw[aA]at S1 S2 HI⊢;obtain⟨pk,pv⟩:=p;dsimp only at ao;subst ao;unfold fP at *;simp only[PT];go_upto_region 3 with(refine wpl_entry rfl (.tmp 5) rfl b W.heap.size rfl kv is i _ HP.out HI.out ?_)
   obtain⟨fn,tmps,assign,body,hy,hR⟩:=HY.out (is.filterMap (ks[·]?)) x _ S1.out (by have h1:=ab.out;have h2:=zH (ks:=ks) (is:=is);rw[Oe,OP]at h1;omega);refine(wpIn_wide (n:=nn)).1 ?_;gi_wp2;refine⟨fun e=>by simp[Fence.wide]at e,hR.mono ?_⟩;rintro e W3 ⟨rfl,ba,be,av,bd⟩;have an:Hid (jK W3 b W.heap.size kv (is++[i])):=⟨bd.same _ _ HI.it rfl,HI.mp.below av HM.lt,HI.nd,HI.lt⟩
   gi_wp2;have H3:=MY ba;have ax:=MY av;go_wp2_with fail;refine⟨⟨is++[i],(by rw[zG HX.out];exact H3.out),an.out,S2.trans ax.out⟩,?_⟩;have e1:=qL an.out;have e2:=HL.out;have e3:=ab.out;rw[e1,e2];rw[Oe,OP]at e3⊢;omega
def Jd(nn B b T N:Nat)(kv:List (Value×Value))(ks:List (Int))(w)(hB:Blk w B [.map (some b)] 305)(hM:aK w b kv)(ab:kv.map (·.1)=ks.map fP)(hN:kv.length<=N) :nK Fence.wide nn prog 243 #[.pointer B] (fun x:Int=>#[fP x]) T (fun xs _=>xs.Perm ks) N w:=
 fun l J W hW hJ hY h0=>Jc nn l B b T kv ks w W J hB hM ab hW hJ (fun pre x W1 h1 h2=>hY pre x W1 h1 (Nf h2 hN)) h0
def Je(b:Nat)(w):Calls prog 201 #[.map (some b)] w fun e w'=>e=.returned (.func (.func 243) #[] #[.pointer w.heap.size])/\w.alloc (.cells #[.map (some b)] 305)=w':=by
 have ab:=mF;go_enter func201,ntmps201;go_wp2;go_ret;exact⟨rfl,rfl⟩
end
section
attribute [local go_sem] Oper.semAt_some
def jh(x:Int):List Value:=[.int .i64 x]
def zJ(w:World)(ks:List (Int))(e:Ending)(w':World):Prop:=
 eB w w'/\∃(v:Value) (xs:List (Int)),e=.returned v/\xs.Perm ks/\aa w' w.heap.size 3 1 v (xs.map jh)
def Jf(B b:Nat)(kv:List (Value×Value))(ks:List (Int))(w)(hB:Blk w B [.map (some b)] 305)(hM:aK w b kv)(an:kv.map (·.1)=ks.map fP)(hN:kv.length<=16000000) :Calls prog 264 #[.slice none 0 0,.func (.func 243) #[] #[.pointer B]] w (zJ w ks):=by
 refine(callsIn_wide (n:=9)).1 ?_;refine callsIn_of_wp_marks func264 rfl trivial ?_ rfl;refine wpIn_wide.2 ?_;simp only[ntmps264,NV,M6,ND,Nat.reduceAdd,Nat.reduceSub,NZ,N0,N1,N2,M9,MZ];go_wp2_with fail;refine(wpIn_wide (n:=9)).1 ?_;obtain⟨w1,ac⟩:=nm (w.alloc (.cells #[.slice none 0 0] 32));have c1:Blk w1 w.heap.size [.slice none 0 0] 32:=by rw[<-ac];exact Blk.new w _ _
 have ad:eB w w1:=by rw[<-ac];exact(NB w.heap.size w).alloc (No _) _
 have ax:w1.heap.size=w.heap.size+1:=by rw[<-ac];simp
 rw[ac];clear ac;refine' yh rfl (by omega) (gf:=243) (lb:=#[.pointer B]) rfl trivial (enters_of func243 (by kernel_rfl) rfl)
  (Jd 8 B b 31 16000000 kv ks w hB hM an hN) ad (fun _=>rfl)
  (fun pre W=>∃v,Blk W w.heap.size [v] 32/\aa W (w.heap.size+1) 3 1 v (pre.map jh)/\eB w W)
  ?hI (fun _ _ _ _ h _ _=>h) ⟨_,c1,aa.none_ _ _ _ _,ad⟩ _ ?assign ?body ?done
 case hI=>
  rintro pre A C row ⟨v,h1,h3,h2⟩ hg hr;exact⟨v,h1.grown hg (fun e=>by have:=(hr _ e.symm).1;omega),h3.turn (by decide) hg hr,h2.grown hg h2.size (fun k e=>by have:=(hr k e).1;omega)⟩
 case assign=>
  intro l x W K hK;gi_wp2;exact hK
 case body=>
  rintro l pre x W ⟨v,h1,h3,h2⟩ hp;obtain⟨q0,f0⟩:=h1.at 0 _ rfl;have av:=h1.lt;obtain⟨A,cc,rfl⟩:=h3.slice;rw[N6]at h1 h3 q0;have H3:=MY (h3.alloc (.cells #[.int .i64 x] 3));have H1:=MY (h1.alloc (.cells #[.int .i64 x] 3));have X3:=MY (Blk.new W [.int .i64 x] 3);have HL:=MY h2;have ao:Hid ((pre.map jh).length<=16777216):=by show _<=_;rw[N6];omega
  have ar:Hid (w.heap.size+1<=(W.alloc (.cells #[.int .i64 x] 3)).heap.size):=by show _<=_;simp;omega
  clear h1 h2 h3;unfold fP;gi_wp2_with (gi_at_builtin;refine nU jG rfl (.tmp 8) (.tmp 10) rfl (w.heap.size+1) (.slice A pre.length cc) (pre.map jh) rfl H3.out W.heap.size 1 [.int .i64 x] 3 rfl X3.out rfl rfl ao.out ar.out ?_;intro v' w' ho hg;obtain⟨A',c',rfl⟩:=ho.slice;have HG:=MY hg;have HO:=MY ho;have HN:=MY (H1.ownG H3.out (by decide) hg);obtain⟨q1,f1⟩:=HN.at 0 _ rfl;clear ho hg);have ab:∀(j:Nat)(o:Obj),(Value.slice A pre.length cc).ownBlock=some j->(W.alloc (.cells #[.int .i64 x] 3)).heap[j]? = some o->∃cur,o=Obj.cells cur 3 (0,0):=by
   intro j o e hj;obtain⟨cur,hc⟩:=H3.heap e;rw[hc]at hj
   cases hj;exact⟨_,rfl⟩
  have al:Below w.heap.size W w':=j8 ((NB w.heap.size W).alloc HL.size _) H3.out HG.out (by omega) (by have:=HL.size;simp;omega);refine⟨?k,?t,?b,.slice A' (pre.length+1) c',?blk,?own,?below⟩
  case k=>exact((KeepsOthers.alloc _ _).trans (KeepsOthers.of_grownBy HG.out (fun j o e hj=>by obtain⟨cur,rfl⟩:=ab j o e hj;rfl))).trans (Oa _ _ _)
  case t=>
   refine((aI.grown (ON W _ none) (fun r cs fr e=>by cases e)).trans (aI.grown HG.out (fun r cs fr e h=>by obtain⟨cur,h⟩:=ab r _ e h;injection h with _ h _;revert h;decide))).trans (aI.grown (gh w' w.heap.size 0 _) (fun r cs fr e h=>?_))
   cases e;have h':w'.heap[w.heap.size]? = some (.cells _ _ _):=HN.out;rw[h]at h';injection h' with h';injection h' with _ h' _;revert h';decide
  case b=>exact al.setCell (p:=⟨w.heap.size,0,none⟩) (No _) _
  case blk=>exact HN.set 0 _
  case own=>
   rw[N9];have:=HO.off (b:=w.heap.size) (i:=0) (by omega) (.slice A' (pre.length+1) c');rw[Oe,N6,OP]at this;exact this
  case below=>exact(HL.trans al).setCell (p:=⟨w.heap.size,0,none⟩) (No _) _
 case done=>
  rintro D xs W hD h4 ⟨v,h1,h3,h2⟩ hK;obtain⟨q0,f0⟩:=h1.at 0 _ rfl;have HR:=MY h3;have HL:=MY h2;have H4:=MY h4;clear h1 h2 h3 h4 hB hM an ad c1;obtain⟨A,cc,rfl⟩:=HR.slice;go_wp2;refine⟨by simp,.inl ⟨_,_,rfl,run_takeDeferred hK,?_⟩⟩;have ag:∀(B k:Nat)(T:TypeId) (v:Value) (L:List (List Value)),aa W B T k v L->aa (W.putObj D (.deferred none)) B T k v L:=fun B k T v L h=>h.of_block fun g e=>OM (fun e2=>by
   obtain⟨cur,hc⟩:=h.heap e;rw[e2,hK]at hc
   cases hc)
  refine⟨.slice A xs.length cc,by simp[results,results264,go_sem],?_⟩;refine⟨HL.trans (belowK_b (w:=w) (No _) W D _ _ (by omega) hK rfl rfl),_,xs,rfl,H4.out,(by have:=(ag _ _ _ _ _ HR.out).less (Nat.le_succ _);rw[N6]at this;exact this)⟩
def Jg(B b:Nat)(kv:List (Value×Value))(ks:List (Int))(w)(hB:Blk w B [.map (some b)] 305)(hM:aK w b kv)(ab:kv.map (·.1)=ks.map fP)(hN:kv.length<=16000000) :Calls prog 241 #[.func (.func 243) #[] #[.pointer B]] w (zJ w ks):=by
 have HC:=MY (Jf B b kv ks w hB hM ab hN);clear hB hM ab hN;go_enter func241,ntmps241;go_wp2_with (go_at_call 264;refine HC.mono ?_;rintro e w1 ⟨ac,v,xs,rfl,h1,h2⟩;obtain⟨A,c,rfl⟩:=h2.slice);go_ret;refine⟨ac,.slice A (xs.map jh).length c,xs,?_,h1,h2⟩;rw[N6];rfl
end
section
open Go.ChangeMaps (setBlock)
attribute [local go_sem] Oper.semAt_some
def dY(x:Int×Int):Value:= .agg #[.int .i64 x.1,.int .i64 x.2]
def Jh(nn l B b T:Nat)(kv:List (Value×Value))(ks:List (Int×Int))(w W)(J:List (Int×Int)->World->Prop)(hB:Blk w B [.map (some b)] 298)(hM:aK w b kv)(bd:kv.map (·.1)=ks.map dY)(hW:eB w W)(hJ:AbX W.heap.size T J)(hY:∀pre x W1,J pre W1->pre.length<kv.length->YieldAt Fence.wide (nn-1) prog l #[dY x] W1 fun e W'=>e=.returned (.bool true)/\J (pre++[x]) W'/\aI T W1 W'/\Below w.heap.size W1 W'/\KeepsWalks W1 W')(h0:J [] W) :CallsIn Fence.wide nn prog 240 #[.func (.yield l) #[] #[],.pointer B] W fun e W'=>(∃v,e=.returned v)/\∃xs:List (Int×Int),xs.Perm ks/\J xs W':=by
 have be:=nT;have HY:=MY hY;have HJ:=MY hJ;have HM:=MY hM;have ac:=MY bd;have ad:=MY (hM.below hW hM.lt);have q0:=((hB.below hW hB.lt).at 0 _ rfl).1;have HW:=MY hW;have S0:Hid (KSt w b W.heap.size kv ks J [] (W.alloc (.mapIter (some b) kv.length #[] kv.length))):=by
  refine⟨hJ _ W _ none h0 (ON W _ none) (fun r e=>by cases e),⟨N8 W _,(NT _ _ _ ad.lt).trans ad.out,List.nodup_nil,by simp⟩,hW.trans ((NB _ W).alloc hW.size _)⟩
 refine callsIn_of_wp func240 rfl trivial ?_ rfl;simp only[ntmps240,NV,M6,ND,Nat.reduceAdd,Nat.reduceSub,NZ,N0,N1,N2,M9,MZ];refine wpIn_wide.2 ?_;go_wp2_with (refine zo underlying298 rfl (.tmp 4) rfl b rfl kv ad.out ?_);simp only[PT];go_loopw [3] (fun _ V=>∃(is:List Nat),Hid (KSt w b W.heap.size kv ks J is V)) (fun _ V=>kv.length-qK V W.heap.size)
 case atStart=>exact⟨_,S0.out⟩
 case round=>
  obtain⟨is,S⟩:=hrel;have HL:=MY (qL S.it);go_upto_region 1 with fail;refine wp_region_lit ?_;refine zp rfl (.tmp 5) rfl b W.heap.size rfl kv is S.it ?_ ?_
  ·intro ag;have HP:=MY (zq (ks:=ks) S.it.nd (fun i hi=>by rw[<-jg ac.out];exact S.it.lt i hi) (fun i hi=>ag i (by rw[jg ac.out];exact hi)));simp only[PT];go_wp2_with fail;refine bodyPost_end (results_none rfl _ _ _) rfl ?_;exact⟨⟨_,rfl⟩,_,HP.out,S.jj⟩
  ·intro i p w1 hp av hI;obtain⟨x,hx,ar⟩:=zI ac.out hp;have S1:Hid (J (is.filterMap (ks[·]?)) (setBlock w1 W.heap.size (.mapIter (some b) kv.length (is.toArray.push i) kv.length))):=HJ.stepJ S.jj S.it.it (No _) _ av;have S2:Hid (eB w (setBlock w1 W.heap.size (.mapIter (some b) kv.length (is.toArray.push i) kv.length))):=Below.stepB S.below HW.size _ av;have HI:=MY hI;have HP:=MY hp;have HX:=MY hx;have al:(is++[i]).length<=kv.length:=uj _ _ hI.nd hI.lt;have ab:=MY al;obtain⟨W2,ba⟩:=nm (setBlock w1 W.heap.size (.mapIter (some b) kv.length (is.toArray.push i) kv.length));rw[ba]at S1 S2 HI⊢;obtain⟨pk,pv⟩:=p;dsimp only at ar;subst ar;unfold dY at *;simp only[PT];go_upto_region 3 with(refine wpl_entry rfl (.tmp 5) rfl b W.heap.size rfl kv is i _ HP.out HI.out ?_)
   replace S1:=MY (HJ.out _ W2 _ none S1.out (ON W2 (.cells #[.int .i64 x.1,.int .i64 x.2] 213) none) (fun r e=>by cases e));replace S2:=MY (S2.alloc S2.size (.cells #[.int .i64 x.1,.int .i64 x.2] 213));have an:Hid (jK (W2.alloc (.cells #[.int .i64 x.1,.int .i64 x.2] 213)) b W.heap.size kv (is++[i])):=⟨(NT _ _ _ (NX.1 HI.it).1).trans HI.it,(NT _ _ _ HI.mp.lt).trans HI.mp,HI.nd,HI.lt⟩
   obtain⟨p0,_⟩:=(Blk.new W2 [.int .i64 x.1,.int .i64 x.2] 213).at 0 _ rfl;obtain⟨p1,_⟩:=(Blk.new W2 [.int .i64 x.1,.int .i64 x.2] 213).at 1 _ rfl;obtain⟨W4,bb⟩:=nm (W2.alloc (.cells #[.int .i64 x.1,.int .i64 x.2] 213));rw[show [Value.int .i64 x.1,Value.int .i64 x.2].toArray=#[.int .i64 x.1,.int .i64 x.2]from rfl]at p0 p1;rw[bb]at S1 S2 an p0 p1⊢;replace HI:=an;obtain⟨fn,tmps,assign,body,hy,hR⟩:=HY.out (is.filterMap (ks[·]?)) x _ S1.out (by have h1:=ab.out;have h2:=zH (ks:=ks) (is:=is);rw[Oe,OP]at h1;omega);refine(wpIn_wide (n:=nn)).1 ?_;gi_wp2;refine⟨fun e=>by simp[Fence.wide]at e,hR.mono ?_⟩;rintro e W3 ⟨rfl,bc,bh,ax,bg⟩;have ao:Hid (jK W3 b W.heap.size kv (is++[i])):=⟨bg.same _ _ HI.it rfl,HI.mp.below ax HM.lt,HI.nd,HI.lt⟩
   gi_wp2;have H3:=MY bc;have aA:=MY ax;go_wp2_with fail;refine⟨⟨is++[i],(by rw[zG HX.out];exact H3.out),ao.out,S2.trans aA.out⟩,?_⟩;have e1:=qL ao.out;have e2:=HL.out;have e3:=ab.out;rw[e1,e2];rw[Oe,OP]at e3⊢;omega
def Ji(nn B b T N:Nat)(kv:List (Value×Value))(ks:List (Int×Int))(w)(hB:Blk w B [.map (some b)] 298)(hM:aK w b kv)(ab:kv.map (·.1)=ks.map dY)(hN:kv.length<=N) :nK Fence.wide nn prog 240 #[.pointer B] (fun x:Int×Int=>#[dY x]) T (fun xs _=>xs.Perm ks) N w:=
 fun l J W hW hJ hY h0=>Jh nn l B b T kv ks w W J hB hM ab hW hJ (fun pre x W1 h1 h2=>hY pre x W1 h1 (Nf h2 hN)) h0
def Jj(b:Nat)(w):Calls prog 197 #[.map (some b)] w fun e w'=>e=.returned (.func (.func 240) #[] #[.pointer w.heap.size])/\w.alloc (.cells #[.map (some b)] 298)=w':=by
 have ab:=mF;go_enter func197,ntmps197;go_wp2;go_ret;exact⟨rfl,rfl⟩
end
section
attribute [local go_sem] Oper.semAt_some
def dm(x:Int×Int):List Value:=[.int .i64 x.1,.int .i64 x.2]
def Jk:bE prog 210 213 2 16:=bE.mk' (z:= .agg #[.int .i64 0,.int .i64 0]) underlying210 (by kernel_rfl) (by decide)
def zK(w:World)(ks:List (Int×Int))(e:Ending)(w':World):Prop:=
 eB w w'/\∃(v:Value) (xs:List (Int×Int)),e=.returned v/\xs.Perm ks/\aa w' w.heap.size 213 2 v (xs.map dm)
def Jl(B b:Nat)(kv:List (Value×Value))(ks:List (Int×Int))(w)(hB:Blk w B [.map (some b)] 298)(hM:aK w b kv)(ao:kv.map (·.1)=ks.map dY)(hN:kv.length<=16000000) :Calls prog 261 #[.slice none 0 0,.func (.func 240) #[] #[.pointer B]] w (zK w ks):=by
 refine(callsIn_wide (n:=9)).1 ?_;refine callsIn_of_wp_marks func261 rfl trivial ?_ rfl;refine wpIn_wide.2 ?_;simp only[ntmps261,NV,M6,ND,Nat.reduceAdd,Nat.reduceSub,NZ,N0,N1,N2,M9,MZ];go_wp2_with fail;refine(wpIn_wide (n:=9)).1 ?_;obtain⟨w1,ac⟩:=nm (w.alloc (.cells #[.slice none 0 0] 210));have c1:Blk w1 w.heap.size [.slice none 0 0] 210:=by rw[<-ac];exact Blk.new w _ _
 have ad:eB w w1:=by rw[<-ac];exact(NB w.heap.size w).alloc (No _) _
 have bb:w1.heap.size=w.heap.size+1:=by rw[<-ac];simp
 rw[ac];clear ac;refine' yg rfl (by omega) (gf:=240) (lb:=#[.pointer B]) rfl trivial (enters_of func240 (by kernel_rfl) rfl)
  (Ji 8 B b 31 16000000 kv ks w hB hM ao hN) ad (fun _=>rfl)
  (fun pre W=>∃v,Blk W w.heap.size [v] 210/\aa W (w.heap.size+1) 213 2 v (pre.map dm)/\eB w W)
  ?hI (fun _ _ _ _ h _ _=>h) ⟨_,c1,aa.none_ _ _ _ _,ad⟩ (fun x a' W=>∃Bx,Blk W Bx [.int .i64 x.1,.int .i64 x.2] 213/\a'={tmps:=#[.slice none 0 0,.func (.func 240) #[] #[.pointer B],.pointer w.heap.size,undef,.slice none 0 0,.pointer (some ⟨Bx,0,none⟩),.func (.func 240) #[] #[.pointer B],dY x,undef,undef,undef,undef,undef],defers:=[]}) ?hAx ?assign ?body ?done
 case hI=>
  rintro pre A C row ⟨v,h1,h3,h2⟩ hg hr;exact⟨v,h1.grown hg (fun e=>by have:=(hr _ e.symm).1;omega),h3.turn (by decide) hg hr,h2.grown hg h2.size (fun k e=>by have:=(hr k e).1;omega)⟩
 case hAx=>
  rintro x a' _ A C row ⟨Bx,h1,h2⟩ hg hr;refine⟨Bx,h1.grown hg (fun e=>?_),h2⟩;obtain⟨_,o,ho,aA⟩:=hr _ e.symm;have ax:A.heap[Bx]? = some (.cells _ _ _):=h1;rw[ax]at ho
  cases ho;simp[Obj.isCells]at aA
 case assign=>
  intro l x W K hK;unfold dY;gi_wp2;exact hK _ _ (ON W _ none) ⟨W.heap.size,Blk.new W [.int .i64 x.1,.int .i64 x.2] _,rfl⟩
 case body=>
  rintro l pre x a' W ⟨v,h1,h3,h2⟩ ⟨Bx,an,rfl⟩ hp;obtain⟨b0,_⟩:=an.at 0 _ rfl;obtain⟨b1,_⟩:=an.at 1 _ rfl;obtain⟨q0,f0⟩:=h1.at 0 _ rfl;have ba:=h1.lt;obtain⟨A,cc,rfl⟩:=h3.slice;rw[N6]at h1 h3 q0;have H3:=MY (h3.alloc (.cells #[.int .i64 x.1,.int .i64 x.2] 213));have H1:=MY (h1.alloc (.cells #[.int .i64 x.1,.int .i64 x.2] 213));have X3:=MY (Blk.new W [.int .i64 x.1,.int .i64 x.2] 213);have HL:=MY h2;have ar:Hid ((pre.map dm).length<=16777216):=by show _<=_;rw[N6];omega
  have av:Hid (w.heap.size+1<=(W.alloc (.cells #[.int .i64 x.1,.int .i64 x.2] 213)).heap.size):=by show _<=_;simp;omega
  clear h1 h2 h3;unfold dY;gi_wp2_with (gi_at_builtin;refine nU Jk rfl (.tmp 8) (.tmp 10) rfl (w.heap.size+1) (.slice A pre.length cc) (pre.map dm) rfl H3.out W.heap.size 1 [.int .i64 x.1,.int .i64 x.2] 213 rfl X3.out rfl rfl ar.out av.out ?_;intro v' w' ho hg;obtain⟨A',c',rfl⟩:=ho.slice;have HG:=MY hg;have HO:=MY ho;have HN:=MY (H1.ownG H3.out (by decide) hg);obtain⟨q1,f1⟩:=HN.at 0 _ rfl;clear ho hg);have ab:∀(j:Nat)(o:Obj),(Value.slice A pre.length cc).ownBlock=some j->(W.alloc (.cells #[.int .i64 x.1,.int .i64 x.2] 213)).heap[j]? = some o->∃cur,o=Obj.cells cur 213 (0,0):=by
   intro j o e hj;obtain⟨cur,hc⟩:=H3.heap e;rw[hc]at hj
   cases hj;exact⟨_,rfl⟩
  have al:Below w.heap.size W w':=j8 ((NB w.heap.size W).alloc HL.size _) H3.out HG.out (by omega) (by have:=HL.size;simp;omega);refine⟨?k,?t,?b,.slice A' (pre.length+1) c',?blk,?own,?below⟩
  case k=>exact((KeepsOthers.alloc _ _).trans (KeepsOthers.of_grownBy HG.out (fun j o e hj=>by obtain⟨cur,rfl⟩:=ab j o e hj;rfl))).trans (Oa _ _ _)
  case t=>
   refine((aI.grown (ON W _ none) (fun r cs fr e=>by cases e)).trans (aI.grown HG.out (fun r cs fr e h=>by obtain⟨cur,h⟩:=ab r _ e h;injection h with _ h _;revert h;decide))).trans (aI.grown (gh w' w.heap.size 0 _) (fun r cs fr e h=>?_))
   cases e;have h':w'.heap[w.heap.size]? = some (.cells _ _ _):=HN.out;rw[h]at h';injection h' with h';injection h' with _ h' _;revert h';decide
  case b=>exact al.setCell (p:=⟨w.heap.size,0,none⟩) (No _) _
  case blk=>exact HN.set 0 _
  case own=>
   rw[N9];have:=HO.off (b:=w.heap.size) (i:=0) (by omega) (.slice A' (pre.length+1) c');rw[Oe,N6,OP]at this;exact this
  case below=>exact(HL.trans al).setCell (p:=⟨w.heap.size,0,none⟩) (No _) _
 case done=>
  rintro D xs W hD h4 ⟨v,h1,h3,h2⟩ hK;obtain⟨q0,f0⟩:=h1.at 0 _ rfl;have HR:=MY h3;have HL:=MY h2;have H4:=MY h4;clear h1 h2 h3 h4 hB hM ao ad c1;obtain⟨A,cc,rfl⟩:=HR.slice;go_wp2;refine⟨by simp,.inl ⟨_,_,rfl,run_takeDeferred hK,?_⟩⟩;have ag:∀(B k:Nat)(T:TypeId) (v:Value) (L:List (List Value)),aa W B T k v L->aa (W.putObj D (.deferred none)) B T k v L:=fun B k T v L h=>h.of_block fun g e=>OM (fun e2=>by
   obtain⟨cur,hc⟩:=h.heap e;rw[e2,hK]at hc
   cases hc)
  refine⟨.slice A xs.length cc,by simp[results,results261,go_sem],?_⟩;refine⟨HL.trans (belowK_b (w:=w) (No _) W D _ _ (by omega) hK rfl rfl),_,xs,rfl,H4.out,(by have:=(ag _ _ _ _ _ HR.out).less (Nat.le_succ _);rw[N6]at this;exact this)⟩
def Jm(B b:Nat)(kv:List (Value×Value))(ks:List (Int×Int))(w)(hB:Blk w B [.map (some b)] 298)(hM:aK w b kv)(ab:kv.map (·.1)=ks.map dY)(hN:kv.length<=16000000) :Calls prog 238 #[.func (.func 240) #[] #[.pointer B]] w (zK w ks):=by
 have HC:=MY (Jl B b kv ks w hB hM ab hN);clear hB hM ab hN;go_enter func238,ntmps238;go_wp2_with (go_at_call 261;refine HC.mono ?_;rintro e w1 ⟨ac,v,xs,rfl,h1,h2⟩;obtain⟨A,c,rfl⟩:=h2.slice);go_ret;refine⟨ac,.slice A (xs.map dm).length c,xs,?_,h1,h2⟩;rw[N6];rfl
end
namespace Bf
open Go.Shelf
def Tryz.lays189_ren:Go.Shelf.Ren:=⟨fun|189=>242|125=>263|257=>265|128=>286|129=>217|294=>287|295=>288|296=>289|297=>290|298=>291|299=>292|216=>293|300=>294|301=>295|328=>312|329=>308|330=>309|331=>313|332=>314|215=>211|343=>331|n=>n,fun|28=>32|3=>3|46=>249|0=>0|51=>399|53=>174|4=>4|183=>393|182=>392|131=>130|5=>5|9=>9|218=>423|222=>427|228=>440|229=>441|n=>n,fun|n=>n⟩
def Tryz.lays189:Go.Proofs.Lays.n189 prog Tryz.lays189_ren:={mixed:=by kernel_rfl,f125:=func263.trans (congrArg some (by kernel_rfl)),f128:=func286.trans (congrArg some (by kernel_rfl)),f129:=func217.trans (congrArg some (by kernel_rfl)),f189:=func242.trans (congrArg some (by kernel_rfl)),f215:=func211.trans (congrArg some (by kernel_rfl)),f216:=func293.trans (congrArg some (by kernel_rfl)),f257:=func265.trans (congrArg some (by kernel_rfl)),f294:=func287.trans (congrArg some (by kernel_rfl)),f295:=func288.trans (congrArg some (by kernel_rfl)),f296:=func289.trans (congrArg some (by kernel_rfl)),f297:=func290.trans (congrArg some (by kernel_rfl)),f298:=func291.trans (congrArg some (by kernel_rfl)),f299:=func292.trans (congrArg some (by kernel_rfl)),f300:=func294.trans (congrArg some (by kernel_rfl)),f301:=func295.trans (congrArg some (by kernel_rfl)),f328:=func312.trans (congrArg some (by kernel_rfl)),f329:=func308.trans (congrArg some (by kernel_rfl)),f330:=func309.trans (congrArg some (by kernel_rfl)),f331:=func313.trans (congrArg some (by kernel_rfl)),f332:=func314.trans (congrArg some (by kernel_rfl)),f343:=func331.trans (congrArg some (by kernel_rfl)),t0:=underlying0,a0:=Tryz.isAgg0,z0:=Tryz.sizeOf0,v0:=Tryz.zeroValue0,t3:=underlying3,a3:=Tryz.isAgg3,z3:=Tryz.sizeOf3,v3:=Tryz.zeroValue3,t4:=underlying4,a4:=Tryz.isAgg4,z4:=Tryz.sizeOf4,v4:=Tryz.zeroValue4,t5:=underlying5,a5:=Tryz.isAgg5,z5:=Tryz.sizeOf5,v5:=Tryz.zeroValue5,t9:=underlying9,a9:=Tryz.isAgg9,z9:=Tryz.sizeOf9,v9:=Tryz.zeroValue9,t28:=underlying32,a28:=Tryz.isAgg32,z28:=Tryz.sizeOf32,v28:=Tryz.zeroValue32,t46:=underlying249,a46:=Tryz.isAgg249,z46:=Tryz.sizeOf249,v46:=Tryz.zeroValue249,t51:=underlying399,a51:=Tryz.isAgg399,z51:=Tryz.sizeOf399,v51:=Tryz.zeroValue399,t53:=underlying174,a53:=Tryz.isAgg174,z53:=Tryz.sizeOf174,v53:=Tryz.zeroValue174,t131:=underlying130,a131:=Tryz.isAgg130,z131:=Tryz.sizeOf130,v131:=Tryz.zeroValue130,t182:=underlying392,a182:=Tryz.isAgg392,z182:=Tryz.sizeOf392,v182:=Tryz.zeroValue392,t183:=underlying393,a183:=Tryz.isAgg393,z183:=Tryz.sizeOf393,v183:=Tryz.zeroValue393,t218:=underlying423,a218:=Tryz.isAgg423,z218:=Tryz.sizeOf423,v218:=Tryz.zeroValue423,t222:=underlying427,a222:=Tryz.isAgg427,z222:=Tryz.sizeOf427,v222:=Tryz.zeroValue427,t228:=underlying440,a228:=Tryz.isAgg440,z228:=Tryz.sizeOf440,v228:=Tryz.zeroValue440,t229:=underlying441,a229:=Tryz.isAgg441,z229:=Tryz.sizeOf441,v229:=Tryz.zeroValue441}
open Go.Sort Go.RowKit in
def Tryz.slices_Sort_int(blk off cap:Nat)(zs:List Int)(w)(hH:Holds (Value.int .i64) w blk off zs.toArray)(ab:blk<w.heap.size)(ac:zs.length<4611686018427387904) :Calls prog 242 #[.slice (some ⟨blk,off,none⟩) zs.length cap] w fun e w'=>e=.returned (.tuple #[])/\∃n os,w'=grow (putRow (Value.int .i64) (Sort.ahead w n) blk off (zs.mergeSort fun x y=>decide (x<=y)).toArray) os:=Any.slices_Sort_int Tryz.lays189 blk off cap zs w hH ab ac
def Tryz.laysNm220_ren:Go.Shelf.Ren:=⟨fun|20=>250|n=>n,fun|22=>32|3=>3|4=>4|0=>0|n=>n,fun|n=>n⟩
def Tryz.laysNm220:Go.Proofs.Lays2.n20 prog Tryz.laysNm220_ren:={mixed:=by kernel_rfl,f20:=func250.trans (congrArg some (by kernel_rfl)),t0:=underlying0,a0:=Tryz.isAgg0,z0:=Tryz.sizeOf0,v0:=Tryz.zeroValue0,t3:=underlying3,a3:=Tryz.isAgg3,z3:=Tryz.sizeOf3,v3:=Tryz.zeroValue3,t4:=underlying4,a4:=Tryz.isAgg4,z4:=Tryz.sizeOf4,v4:=Tryz.zeroValue4,t22:=underlying32,a22:=Tryz.isAgg32,z22:=Tryz.sizeOf32,v22:=Tryz.zeroValue32,i3:=by kernel_rfl}
open Go.RowKit Go.Lib Go.Sort in
open Go.RowKit Go.Lib Go.Sort in
def Tryz.slices_Compact_int(blk off cap:Nat)(zs:List Int)(w)(hH:Holds (Value.int .i64) w blk off zs.toArray)(ac:zs.length<=9223372036854775807)(ab:zs.length<=cap) :Calls prog 250 #[.slice (some ⟨blk,off,none⟩) zs.length cap] w fun e w'=>e=.returned (.slice (some ⟨blk,off,none⟩) (Lib.compact zs).length cap)/\∃q,w'=putRow (Value.int .i64) (Sort.ahead w q) blk off (Lib.compact zs++List.replicate (zs.length-(Lib.compact zs).length) 0).toArray:=Any.slices_Compact_int Tryz.laysNm220 blk off cap zs w hH ac ab
open Go.RowKit Go.Lib Go.Sort in
open Go.RowKit Go.Lib Go.Sort in
open Go.RowKit Go.Sort in
def Tryz.slices_Sort_int_none(p)(cap:Nat)(w) :Calls prog 242 #[.slice p 0 cap] w fun e w'=>e=.returned (.tuple #[])/\w'=w:=Any.slices_Sort_int_none Tryz.lays189 p cap w
def Tryz.laysSF_ren:Go.Shelf.Ren:=⟨fun|6=>239|15=>263|14=>262|28=>286|29=>217|20=>278|21=>279|22=>280|23=>281|24=>282|25=>283|26=>284|27=>285|46=>307|47=>308|48=>309|49=>310|50=>311|57=>330|n=>n,fun|22=>210|24=>213|25=>304|3=>3|39=>249|0=>0|53=>399|55=>174|4=>4|46=>393|45=>392|50=>130|5=>5|9=>9|66=>423|70=>427|76=>440|77=>441|n=>n,fun|n=>n⟩
def Tryz.laysSF:Go.Proofs.SlLaysF0.n6 prog Tryz.laysSF_ren:={mixed:=by kernel_rfl,f6:=⟨Tryz.f239.name,by decide,func239.trans (congrArg some (by kernel_rfl))⟩,f14:=⟨Tryz.f262.name,by decide,func262.trans (congrArg some (by kernel_rfl))⟩,f15:=func263.trans (congrArg some (by kernel_rfl)),f20:=⟨Tryz.f278.name,by decide,func278.trans (congrArg some (by kernel_rfl))⟩,f21:=⟨Tryz.f279.name,by decide,func279.trans (congrArg some (by kernel_rfl))⟩,f22:=⟨Tryz.f280.name,by decide,func280.trans (congrArg some (by kernel_rfl))⟩,f23:=⟨Tryz.f281.name,by decide,func281.trans (congrArg some (by kernel_rfl))⟩,f24:=⟨Tryz.f282.name,by decide,func282.trans (congrArg some (by kernel_rfl))⟩,f25:=⟨Tryz.f283.name,by decide,func283.trans (congrArg some (by kernel_rfl))⟩,f26:=⟨Tryz.f284.name,by decide,func284.trans (congrArg some (by kernel_rfl))⟩,f27:=⟨Tryz.f285.name,by decide,func285.trans (congrArg some (by kernel_rfl))⟩,f28:=func286.trans (congrArg some (by kernel_rfl)),f29:=func217.trans (congrArg some (by kernel_rfl)),f46:=⟨Tryz.f307.name,by decide,func307.trans (congrArg some (by kernel_rfl))⟩,f47:=func308.trans (congrArg some (by kernel_rfl)),f48:=func309.trans (congrArg some (by kernel_rfl)),f49:=⟨Tryz.f310.name,by decide,func310.trans (congrArg some (by kernel_rfl))⟩,f50:=⟨Tryz.f311.name,by decide,func311.trans (congrArg some (by kernel_rfl))⟩,f57:=⟨Tryz.f330.name,by decide,func330.trans (congrArg some (by kernel_rfl))⟩,t0:=underlying0,a0:=Tryz.isAgg0,z0:=Tryz.sizeOf0,v0:=Tryz.zeroValue0,t3:=underlying3,a3:=Tryz.isAgg3,z3:=Tryz.sizeOf3,v3:=Tryz.zeroValue3,t4:=underlying4,a4:=Tryz.isAgg4,z4:=Tryz.sizeOf4,v4:=Tryz.zeroValue4,t5:=underlying5,a5:=Tryz.isAgg5,z5:=Tryz.sizeOf5,v5:=Tryz.zeroValue5,t9:=underlying9,a9:=Tryz.isAgg9,z9:=Tryz.sizeOf9,v9:=Tryz.zeroValue9,t22:=underlying210,a22:=Tryz.isAgg210,z22:=Tryz.sizeOf210,v22:=Tryz.zeroValue210,t25:=underlying304,a25:=Tryz.isAgg304,z25:=Tryz.sizeOf304,v25:=Tryz.zeroValue304,t39:=underlying249,a39:=Tryz.isAgg249,z39:=Tryz.sizeOf249,v39:=Tryz.zeroValue249,t45:=underlying392,a45:=Tryz.isAgg392,z45:=Tryz.sizeOf392,v45:=Tryz.zeroValue392,t46:=underlying393,a46:=Tryz.isAgg393,z46:=Tryz.sizeOf393,v46:=Tryz.zeroValue393,t50:=underlying130,a50:=Tryz.isAgg130,z50:=Tryz.sizeOf130,v50:=Tryz.zeroValue130,t53:=underlying399,a53:=Tryz.isAgg399,z53:=Tryz.sizeOf399,v53:=Tryz.zeroValue399,t55:=underlying174,a55:=Tryz.isAgg174,z55:=Tryz.sizeOf174,v55:=Tryz.zeroValue174,t66:=underlying423,a66:=Tryz.isAgg423,z66:=Tryz.sizeOf423,v66:=Tryz.zeroValue423,t70:=underlying427,a70:=Tryz.isAgg427,z70:=Tryz.sizeOf427,v70:=Tryz.zeroValue427,t76:=underlying440,a76:=Tryz.isAgg440,z76:=Tryz.sizeOf440,v76:=Tryz.zeroValue440,t77:=underlying441,a77:=Tryz.isAgg441,z77:=Tryz.sizeOf441,v77:=Tryz.zeroValue441}
end Bf
section
open Go.Sort
def dB(a b:Int):Int:=if a<b then -1 else if a > b then 1 else 0
def me(x y:Int×Int):Int:=if dB x.1 y.1≠0 then dB x.1 y.1 else dB x.2 y.2
def fR(W W':World):Prop:=∃q os,W'=grow (W.drewN q) os
def fR.refl(W):fR W W:=⟨0,#[],by rw[grow_empty];rfl⟩
def fR.alloc{W W'}(h:fR W W')(o:Obj):fR W (W'.alloc o):=by
 obtain⟨q,os,rfl⟩:=h;exact⟨q,os++#[o],by simp[grow,World.alloc]⟩
def fR.drew{W W'}(h:fR W W'):fR W W'.drew:=by
 obtain⟨q,os,rfl⟩:=h;exact⟨q+1,os,by simp[grow,World.drew,World.drewN];omega⟩
def uk(a:Int)(w):Calls prog 211 #[.int .i64 a] w fun e w'=>e=.returned (.bool false)/\w'=w:=by
 have h:(a != a)=false:=by simp
 go_enter func211,ntmps211;go_wp2;go_ret;exact⟨by simp,rfl⟩
def zL(a b:Int)(w):Calls prog 137 #[.int .i64 a,.int .i64 b] w fun e w'=>e=.returned (.int .i64 (dB a b))/\w'=w:=by
 go_enter func137,ntmps137;by_cases h1:a<b
 ·have g1:decide (a<b)=true:=by simpa using h1
  have E:Hid (dB a b= -1):=by show _=_;simp[dB,h1]
  go_wp2_with (go_at_call 211;refine(uk _ _).mono ?_;rintro e w2 ⟨rfl,rfl⟩);go_ret;exact⟨by rw[E.out];rfl,rfl⟩
 ·have g1:decide (a<b)=false:=by simpa using h1
  by_cases h2:a > b
  ·have g2:decide (b<a)=true:=by simpa using h2
   have E:Hid (dB a b=1):=by show _=_;simp[dB,h1,h2]
   go_wp2_with (go_at_call 211;refine(uk _ _).mono ?_;rintro e w2 ⟨rfl,rfl⟩);go_ret;exact⟨by rw[E.out];rfl,rfl⟩
  ·have g2:decide (b<a)=false:=by simpa using h2
   have E:Hid (dB a b=0):=by show _=_;simp[dB,h1,h2]
   go_wp2_with (go_at_call 211;refine(uk _ _).mono ?_;rintro e w2 ⟨rfl,rfl⟩);go_ret;exact⟨by rw[E.out];rfl,rfl⟩
def Jn(g:Nat)(a b:Int)(w)(h:Blk w g [.int .i64 a,.int .i64 b] 3):Calls prog 199 #[.slice g 2 2] w fun e w'=>e=.returned (.int .i64 (if a≠0 then a else b))/\w'=w:=by
 obtain⟨q0,q1⟩:=li h;clear h;go_enter func199,ntmps199;go_wp2_with fail;refine wp_loop_rounds 3 ?_;rw[rounds_succ];by_cases h1:a=0
 ·subst h1;have g1:((0:Int) != 0)=false:=rfl;go_wp2_with fail;rw[rounds_succ];by_cases h2:b=0
  ·subst h2;go_wp2_with fail;rw[rounds_succ];go_wp2;go_ret;exact⟨by simp,rfl⟩
  ·have g2:(b != 0)=true:=by simpa using h2
   go_wp2;go_ret;exact⟨by simp,rfl⟩
 ·have g1:(a != 0)=true:=by simpa using h1
  go_wp2;go_ret;exact⟨by simp[h1],rfl⟩
def fR.below{W W'}(h:fR W W'):eB W W':=by
 obtain⟨q,os,rfl⟩:=h;exact⟨rfl,rfl,rfl,by simp[grow,World.drewN],fun k hk=>by
  show(W.heap++os)[k]? = _;rw[Array.getElem?_append_left hk]⟩
def Jo(x y:Int×Int)(w):Calls prog 198 #[.agg #[.int .i64 x.1,.int .i64 x.2],.agg #[.int .i64 y.1,.int .i64 y.2]] w fun e w'=>e=.returned (.int .i64 (me x y))/\fR w w':=by
 obtain⟨w1,ac⟩:=nm ((w.alloc (.cells #[.int .i64 x.1,.int .i64 x.2] 213)).alloc (.cells #[.int .i64 y.1,.int .i64 y.2] 213));have G1:Hid (fR w w1):=by rw[<-ac];exact((fR.refl w).alloc _).alloc _
 have X1:Hid (Blk w1 w.heap.size [.int .i64 x.1,.int .i64 x.2] 213):=by rw[<-ac];exact(Blk.new w _ _).alloc _
 have Y1:Hid (Blk w1 (w.heap.size+1) [.int .i64 y.1,.int .i64 y.2] 213):=by
  rw[<-ac];have:=Blk.new (w.alloc (.cells #[.int .i64 x.1,.int .i64 x.2] 213)) [.int .i64 y.1,.int .i64 y.2] 213;rw[NU]at this;exact this
 obtain⟨x0,x1⟩:=li X1.out;obtain⟨y0,y1⟩:=li Y1.out;have z0:=X1.lt;have z1:=Y1.lt;have al:=MY ac;go_enter func198,ntmps198;go_wp2_with fail;clear ac;refine aJ (S:=fun w'=>∀b o,b<w1.heap.size->w'.cell? ⟨b,o,none⟩=w1.cell? ⟨b,o,none⟩) [0,1,2,3,5,6,7,8,1004,1009,1010,1011,12] (fun b o _=>rfl) (fun ab=>?_);repeat refine ay ?_
 refine az fun K hK=>?_;go_simp;refine(zL _ _ _).mono ?_;rintro e w2 ⟨rfl,rfl⟩;refine hG hK (by exact ab) fun ab=>?_;clear hK K;refine az fun K hK=>?_;go_simp;refine(zL _ _ _).mono ?_;rintro e w2 ⟨rfl,rfl⟩;refine hG hK (by exact ab) fun ab=>?_;clear hK K;refine az fun K hK=>?_;go_simp;have ag:=MY (Blk.new w1.drew [.int .i64 (dB x.1 y.1),.int .i64 (dB x.2 y.2)] 3);have hA:∀b o,b<w1.heap.size->(w1.drew.alloc (.cells #[.int .i64 (dB x.1 y.1),.int .i64 (dB x.2 y.2)] 3)).cell? ⟨b,o,none⟩=w1.cell? ⟨b,o,none⟩:=fun b o h=>(NL (NT w1.drew _ b h)).trans (ab b o h);refine hG hK (by exact hA) fun ab=>?_;clear hK K;refine az fun K hK=>?_;go_simp;obtain⟨r,hr⟩:=nm (me x y);have HR:=MY hr;have ad:=Jn _ _ _ _ ag.out;rw[show(if dB x.1 y.1≠0 then dB x.1 y.1 else dB x.2 y.2)=r from hr]at ad;clear hr;refine ad.mono ?_;rintro e w3 ⟨rfl,rfl⟩;refine hG hK (by exact hA) fun ab=>?_;clear hK K;repeat refine ay ?_
 refine aj ?_;clear ab hA x0 x1 y0 y1 z0 z1;go_wp2;go_ret;exact⟨by rw[HR.out];rfl,(G1.alloc _).drew⟩
def um(x y:Int×Int):me x y<0<->x.1<y.1\/(x.1=y.1/\x.2<y.2):=by
 unfold me dB;by_cases h1:x.1<y.1
 ·simp[h1]
 ·by_cases h2:x.1 > y.1
  ·simp[h1,h2];omega
  ·by_cases h3:x.2<y.2
   ·simp[h1,h2,h3];omega
   ·by_cases h4:x.2 > y.2
    ·simp[h1,h2,h3,h4]
    ·simp[h1,h2,h3,h4]
def Jp(f)(w):Calls prog 278 #[.slice none 0 0,.int .i64 0,.int .i64 0,f] w fun e w'=>e=.returned (.tuple #[])/\w=w':=by
 go_enter func278,ntmps278;go_wp2;refine wp_loop_rounds 1 ?_;rw[rounds_succ];go_wp2;go_end0;exact⟨rfl,rfl⟩
def Jq(k:Int)(f)(w):Calls prog 262 #[.slice none 0 0,.int .i64 0,.int .i64 0,.int .i64 k,f] w fun e w'=>e=.returned (.tuple #[])/\w=w':=by
 go_enter func262,ntmps262;go_wp2;refine wp_loop_rounds 1 ?_;rw[rounds_succ];go_wp2_with (go_at_call 278;refine(Jp _ _).mono ?_;rintro e w1 ⟨rfl,rfl⟩);refine bodyPost_ret (results_none rfl _ _ _) rfl ?_;exact⟨rfl,rfl⟩
def Jr(w):Calls prog 263 #[.int .u64 0] w fun e w'=>e=.returned (.int .i64 0)/\w=w':=by
 have HC:=MY (show Calls prog 217 #[.int .u64 0] w fun e w'=>e=.returned (.int .i64 0)/\w=w' from(rP 0 w (by omega) (by omega)).mono (fun e W h=>by rw[show Lib.bitLen (0:Int).toNat=0 by decide]at h;exact h));go_enter func263,ntmps263;go_wp2_with (go_at_call 217;refine HC.mono ?_;rintro e w1 ⟨rfl,rfl⟩);go_ret;exact⟨rfl,rfl⟩
def Js(f)(w):Calls prog 239 #[.slice none 0 0,f] w fun e w'=>e=.returned (.tuple #[])/\w=w':=by
 go_enter func239,ntmps239;go_wp2_with (first|(go_at_call 263;refine(Jr _).mono ?_;rintro e w1 ⟨rfl,rfl⟩)|(go_at_call 262;refine(Jq _ _ _).mono ?_;rintro e w1 ⟨rfl,rfl⟩));go_end0;exact⟨rfl,rfl⟩
def zM{α:Type}(w:World)(k:Nat)(cell:α->List Value)(ks:List α)(e:Ending)(w':World):Prop:=
 eB w w'/\∃(v:Value)(xs:List α),e=.returned v/\xs.Perm ks/\RowC w' k v (xs.map cell)
def un(xs:List Int):(xs.map jh).flatten=xs.map (Value.int .i64):=by
 induction xs with
 |nil=>rfl
 |cons a l ih=>rw[NP,List.flatten_cons,ih];rfl
def Jt(B b:Nat)(kv:List (Value×Value))(ks:List Int)(w)(hB:Blk w B [.map (some b)] 305)(hM:aK w b kv)(ad:kv.map (·.1)=ks.map fP)(hN:kv.length<=16000000) :Calls prog 200 #[.func (.func 243) #[] #[.pointer B]] w (zM w 1 jh ks):=by
 have HC:=MY (Jg B b kv ks w hB hM ad hN);have ao:=MY (jg ad);have ax:ks.length<=16000000:=by rw[<-jg ad];exact hN
 go_enter func200,ntmps200;go_wp2_with fail;refine HC.mono ?_;rintro e w1 ⟨aA,v,xs,rfl,hp,ho⟩;have bd:xs.length<=16000000:=by rw[hp.length_eq];exact ax
 have ac:=MY aA;have HP:=MY hp;have HO:=MY ho;obtain⟨⟨h1,h2⟩,h3⟩:=ho;rcases h2 with⟨rfl,h0⟩|⟨g,cap,cur,rfl,hg,hc,hn,ba,bc,ab⟩
 ·have hx:xs=[]:=by
   rw[N6]at h0;exact Nb h0
  subst hx;go_wp2_with (go_at_call 242;refine(Tryz.slices_Sort_int_none none 0 w1).mono ?_;rintro e w2 ⟨rfl,rfl⟩);go_ret;exact⟨ac.out,.slice none 0 0,[],rfl,HP.out,RowC.nil _ _ _ _⟩
 ·rw[un]at ab;rw[N6]at hn ab;rw[Nat.mul_one]at ab;have hH:=holds_of_blockI (ss:=xs) hc ab;have bb:g<w1.heap.size:=(NX.1 hc).1;have HS:=MY (Tryz.slices_Sort_int g 0 cap xs w1 hH bb (by omega));have al:=MY hc;have ar:=MY hn;have an:=MY ba;have av:=MY bc;rw[N6];go_wp2_with (go_at_call 242;refine HS.mono ?_;rintro e w2 ⟨rfl,n,os,rfl⟩);go_ret;have hl:(xs.mergeSort fun x y=>decide (x<=y)).length=xs.length:=by simp
  have ag:=ownsRow_sortedI (os:=os) (n:=n) (ss:=xs) hl hg al.out ar.out an.out av.out;refine⟨ac.grown (grownBy_sortedI _) ac.size (fun k e=>by cases e;exact hg),_,xs.mergeSort (fun x y=>decide (x<=y)),rfl,(List.mergeSort_perm _ _).trans HP.out,?_⟩;have ho:aa (grow (putRow (Value.int .i64) (Sort.ahead w1 n) g 0 (xs.mergeSort fun x y=>decide (x<=y)).toArray) os) w.heap.size 3 1 (.slice g xs.length cap) ((xs.mergeSort fun x y=>decide (x<=y)).map jh):=by
   refine⟨?_,fun c hc=>by obtain⟨z,_,rfl⟩:=List.mem_map.1 hc;rfl⟩;rw[un,N6,hl];exact ag
  exact ho.row
def Ju:SWO (Go.Proofs.ltOf me):=by
 refine⟨fun x=>?_,fun x y z h1 h2=>?_,fun x y z h1 h2=>?_⟩
 ·unfold ltOf;rw[decide_eq_false_iff_not,um];omega
 ·unfold ltOf at *;rw[decide_eq_true_eq,um]at *;omega
 ·unfold ltOf at *;rw[decide_eq_false_iff_not,um]at *;omega
def Jv{α:Type}[Inhabited α]{cell:α->List Value}{k:Nat}(hk:∀x,(cell x).length=k)(h0:0<k){w:World}{g:Nat}{cur}{e}{xs:List α}(hb:w.heap[g]? = some (.cells cur e (0,0)))(ht:cur.toList.take (xs.length*k)=(xs.map cell).flatten):HoldsK cell k w g 0 xs.toArray:=by
 intro t ac;rw[size_flatK]at ac;have ab:t<xs.length*k:=by simpa using ac
 refine⟨?_,by simp[World.frozen?,hb]⟩;have hi:t/k<xs.length:=(Nl h0).2 ab;have h1:(cur.toList.take (xs.length*k))[t]? = ((xs.map cell).flatten)[t]?:=by rw[ht]
 rw[List.getElem?_take_of_lt ab]at h1;have h2:=j7 (xs.map cell) k (fun c hc=>by obtain⟨x,_,rfl⟩:=List.mem_map.1 hc;exact hk x) (t/k) (t%k) (cell xs[t/k]) (by rw[Ou,Nx hi];rfl) (Ni _ h0);rw[Nat.div_add_mod']at h2;rw[h2]at h1;have hj:t%k<(cell xs[t/k]).length:=by rw[hk];exact Ni _ h0
 rw[Nx hj]at h1;simp only[World.cell?,hb,Nm,Option.isSome_none,Bool.false_eq_true,if_false];rw[<-Array.getElem?_toList,h1,get_flatK _ _ _ _ (by simpa using ab)];simp[hi,hj]
def Jw{α:Type}[Inhabited α]{cell:α->List Value}{k:Nat}(hk:∀x,(cell x).length=k){w}{g cap:Nat}{d:Array α}(h:HoldsK cell k w g 0 d)(ad:g<w.heap.size)(hc:d.size<=cap):RowC w k (.slice g d.size cap) (d.toList.map cell):=by
 refine⟨_,cap,by rw[N6,Array.length_toList],by rw[N6,Array.length_toList];exact hc,fun i cs hi=>⟨g,0,rfl,ad,fun j x hx=>?_⟩⟩;rw[Ou]at hi;obtain⟨y,hy,rfl⟩:=Option.map_eq_some_iff.1 hi;rw[Array.getElem?_toList]at hy;obtain⟨ac,al⟩:=NX.1 hy;obtain⟨ab,ag⟩:=NQ.1 hx;rw[hk]at ab;have ht:i*k+j<d.size*k:=by
  have:(i+1)*k<=d.size*k:=Nd k ac;rw[Nat.add_mul,Nat.one_mul]at this;omega
 have h1:=(h (i*k+j) (by rw[size_flatK];exact ht)).1;rw[get_flatK _ _ _ _ ht]at h1;have e1:(i*k+j)/k=i:=by rw[Nat.add_comm,M8,Nat.add_mul_div_left _ _ (by omega),Nj ab,Nm]
 have e2:(i*k+j)%k=j:=by rw[Nat.add_comm,M8,Nat.add_mul_mod_self_left,Nk ab]
 rw[e1,e2]at h1;rw[show 0+i*k+j=0+(i*k+j) by omega,h1];have e3:d[i]! = y:=by rw[getElem!_pos d i ac];exact al
 rw[e3];simp only[id];rw[getElem!_pos _ j (by rw[hk];exact ab),ag]
def Jy(g cap:Nat)(xs:List (Int×Int))(w)(hH:HoldsK dm 2 w g 0 xs.toArray)(ab:g<w.heap.size)(ad:xs.length<=cap)(al:xs.length<=16000000) :Calls prog 239 #[.slice g xs.length cap,.func (.func 198) #[] #[]] w fun e w'=>e=.returned (.tuple #[])/\∃ys:List (Int×Int),ys.Perm xs/\RowC w' 2 (.slice g xs.length cap) (ys.map dm)/\w.grownBy w' (some g):=by
 have h:=AnyQ.slices_SortFunc Tryz.laysSF 2 (fun _=>by kernel_rfl) (fun _=>by kernel_rfl) dm (fun _=>rfl) (fun x v hv=>by simp only[dm,Og,Oh,or_false]at hv;rcases hv with rfl|rfl <;> rfl) me Ju 198 #[] g 0 cap xs.toArray w (enters_of func198 (by kernel_rfl) rfl) (fun m os dk _ x y=>Jo x y _) hH ab (by simp;omega);refine h.mono ?_;rintro e w' ⟨rfl,d',n,os,hp,_,rfl⟩;have hd:d'.size=xs.length:=by have:=hp.1;simpa using this
 have ac:d'.toList.Perm xs:=by
  have:=hp.2.2;rw[show xs.toArray.size=d'.size by rw[hd];simp]at this;have e1:d'.extract 0 d'.size=d':=by simp
  have e2:xs.toArray.extract 0 d'.size=xs.toArray:=by rw[hd];simp
  rw[e1,e2]at this;exact this
 refine⟨rfl,d'.toList,ac,?_,?_⟩
 ·have h1:HoldsK dm 2 (sortWorldK dm 2 w g 0 n d' os) g 0 d':=holds_grow _ _ _ _ _ _ (by simpa[putRowK,Sort.ahead]using ab) (holds_putRow id (Sort.ahead w n) g 0 (flatK dm 2 xs.toArray) (flatK dm 2 d') hH (by rw[size_flatK,size_flatK,hd];simp));have h2:=Jw (cell:=dm) (k:=2) (fun _=>rfl) h1 (by simp[sortWorldK,putRowK,Sort.ahead];omega) (cap:=cap) (by omega);rw[hd]at h2;exact h2
 ·refine⟨rfl,rfl,rfl,by simp[sortWorldK,putRowK,Sort.ahead],fun j hj ag=>?_⟩;unfold sortWorldK putRowK;rw[heap_grow_old _ _ (by simpa[Sort.ahead]using hj)];have:g≠j:=fun e=>ag (by rw[e]);simp[putRow,mapBlock,Sort.ahead,Array.getElem?_modify,this]
def Jz(B b:Nat)(kv:List (Value×Value))(ks:List (Int×Int))(w)(hB:Blk w B [.map (some b)] 298)(hM:aK w b kv)(ad:kv.map (·.1)=ks.map dY)(hN:kv.length<=16000000) :Calls prog 196 #[.func (.func 240) #[] #[.pointer B],.func (.func 198) #[] #[]] w (zM w 2 dm ks):=by
 have HC:=MY (Jm B b kv ks w hB hM ad hN);have al:ks.length<=16000000:=by rw[<-jg ad];exact hN
 go_enter func196,ntmps196;go_wp2_with fail;refine HC.mono ?_;rintro e w1 ⟨an,v,xs,rfl,hp,ho⟩;have av:xs.length<=16000000:=by rw[hp.length_eq];exact al
 have ab:=MY an;have HP:=MY hp;have HO:=MY ho;obtain⟨⟨h1,h2⟩,h3⟩:=ho;rcases h2 with⟨rfl,h0⟩|⟨g,cap,cur,rfl,hg,hc,hn,aA,ba,ag⟩
 ·have hx:xs=[]:=by
   rw[N6]at h0;exact Nb h0
  subst hx;go_wp2_with (go_at_call 239;refine(Js _ w1).mono ?_;rintro e w2 ⟨rfl,rfl⟩);go_ret;exact⟨ab.out,.slice none 0 0,[],rfl,HP.out,RowC.nil _ _ _ _⟩
 ·rw[N6]at hn ag;have hH:=Jv (cell:=dm) (k:=2) (fun _=>rfl) (by omega) (xs:=xs) hc ag;have ar:g<w1.heap.size:=(NX.1 hc).1;have HS:=MY (Jy g cap xs w1 hH ar hn av);rw[N6];go_wp2_with (go_at_call 239;refine HS.mono ?_;rintro e w2 ⟨rfl,ys,ax,ac,ao⟩);go_ret;exact⟨ab.grown ao ab.size (fun k e=>by cases e;exact hg),_,ys,rfl,ax.trans HP.out,ac⟩
end
def JP(a b c d:Int)(W):(Op.equal 213 (.agg #[.int .i64 a,.int .i64 b]) (.agg #[.int .i64 c,.int .i64 d])).run prog W=.ok (eqB (a,b) (c,d)) W:=by
 show(Op.equalIn 10000 213 _ _).run _ W=_;by_cases h:(a,b)=(c,d)
 ·rw[eZ h]
  cases h;simp[go_sem]
 ·rw[fG h];simp[go_sem];simpa using h
def JQ(e:Bool)(a b:Int)(W):(Instr.checkKey e 10000 213 (.agg #[.int .i64 a,.int .i64 b])).run prog W=.ok () W:=by kernel_rfl
def zP{P:Program}{kt}{Kd:Value->Prop}(hs:∀d,P.underlying kt=some d->∀v u,Kd v->Kd u->Instr.sameNow d v u=none)(hd:∃d,P.underlying kt=some d)(ad:∀v u W,Kd v->Kd u->(Op.equal kt v u).run P W=.ok (eqB v u) W)(v)(es:List MapEntry)(w)(hv:Kd v)(ac:∀e∈es,Kd e.key):(Instr.findKey kt v es).run P w=.ok (dX v es 0) w:=by
 obtain⟨d,hd⟩:=hd;have ab:∀(es:List MapEntry)(i:Nat),(∀e∈es,Kd e.key)->(Instr.findAsking kt v es i).run P w=.ok (dX v es i) w:=by
  intro es;induction es with
  |nil=>intro i _;rfl
  |cons e es ih=>
   intro i h
   simp only[Instr.findAsking,dX,NM,ad v e.key w hv (h e (by simp)),Result.andThen]
   by_cases hk:v=e.key
   ·rw[eZ hk]
    simp only[if_true]
    rw[if_pos hk.symm];rfl
   ·rw[fG hk]
    simp only[Bool.false_eq_true,if_false]
    rw[if_neg (fun h=>hk h.symm)]
    exact ih _ fun e he=>h e (by simp[he])
 cases es with
 |nil=>
  simp only[Instr.findKey,NM,run_underlying hd,Result.andThen,Instr.findNow]
  rfl
 |cons e es=>
  simp only[Instr.findKey,NM,run_underlying hd,Result.andThen,Instr.findNow,hs d hd v e.key hv (ac e (by simp))]
  exact ab _ 0 ac
def JR:gP prog 213 KdP:=by
 refine⟨?_,?_,?_⟩
 ·rintro e v w ⟨a,b,rfl⟩;exact JQ e a b w
 ·intro v es w hv ab;refine zP (Kd:=KdP) (fun d hd v u _ _=>?_) ⟨_,underlying213⟩ ?_ v es w hv ab
  ·rw[underlying213]at hd
   cases hd;rfl
  ·rintro v u W ⟨a,b,rfl⟩ ⟨c,d,rfl⟩;rw[JP];congr 1;by_cases h:(a,b)=(c,d)
   ·cases h;rw[eZ rfl,eZ rfl]
   ·rw[fG h,fG (fun e=>h (by simpa using e))]
 ·rintro v ⟨a,b,rfl⟩;simp[Instr.sameBits]
def upd_keys(kv:List (Value×Value))(k v):(k∈kv.map (·.1)/\(aF kv k v).map (·.1)=kv.map (·.1))\/(¬k∈kv.map (·.1)/\(aF kv k v).map (·.1)=kv.map (·.1)++[k]):=by
 induction kv with
 |nil=>exact .inr ⟨by simp,rfl⟩
 |cons p l ih=>
  by_cases h:p.1=k
  ·refine .inl ⟨by simp[h],?_⟩
   simp only[aF,if_pos h,NP]
   rw[h]
  ·simp only[aF,if_neg h,NP,Og]
   rcases ih with⟨h1,h2⟩|⟨h1,h2⟩
   ·exact .inl ⟨.inr h1,by rw[h2]⟩
   ·refine .inr ⟨fun e=>?_,by rw[h2];rfl⟩
    rcases e with e|e
    ·exact h e.symm
    ·exact h1 e
def zQ{α:Type}{enc:α->Value}(ab:∀x y,enc x=enc y->x=y){kv:List (Value×Value)}{ks:List α}(h:kv.map (·.1)=ks.map enc)(x:α)(v):∃ac:List α,(aF kv (enc x) v).map (·.1)=ac.map enc/\(∀y,y∈ac<->y∈ks\/y=x)/\ac.length<=ks.length+1:=by
 rcases upd_keys kv (enc x) v with⟨h1,h2⟩|⟨h1,h2⟩
 ·refine⟨ks,by rw[h2,h],fun y=>⟨.inl,?_⟩,by omega⟩;rintro(hy|rfl)
  ·exact hy
  ·rw[h]at h1;obtain⟨z,hz,e⟩:=List.mem_map.1 h1;rw[<-ab _ _ e];exact hz
 ·exact⟨ks++[x],by rw[h2,h];simp,fun y=>by simp,by simp⟩
section
open Go.ChangeMaps (setBlock)
def mj(b:Nat)(Kd:Value->Prop)(kv:List (Value×Value)):gC where
 rw:=True
 p W F:=(aK W b kv/\∀p∈kv,Kd p.1)/\∀k,F k<->k=b
 loc:=fun⟨⟨h1,h2⟩,h3⟩ h=>⟨⟨(h.block b ((h3 b).2 rfl)).trans h1,h2⟩,h3⟩
 lt:=fun⟨⟨h1,_⟩,h3⟩ k hk=>by rw[(h3 k).1 hk];exact h1.lt
class mq(P:Program)(kt:TypeId)(Kd:outParam (Value->Prop)):Prop where
 out:gP P kt Kd
class kN(As:List Asn)(b:Nat)(Kd:outParam (Value->Prop))(kv:outParam (List (Value×Value)))(i:outParam Nat):Prop where
 out:As[i]? = some (.any (mj b Kd kv))
inductive LkR(kv:List (Value×Value))(k z:Value):Bool->Value->Prop
 |some {u:Value} (h:Hid (aD kv k=some u)):LkR kv k z true (.tuple #[u,.bool true])
 |none (h:Hid (aD kv k=none)):LkR kv k z true (.tuple #[z,.bool false])
 |val {u:Value} (h:Hid (aD kv k=some u)):LkR kv k z false u
 |nil (h:Hid (aD kv k=none)):LkR kv k z false z
section
variable {P:Program} {As Bs:List Asn} {w:World} {ops:Array Oper} {rest:List Oper} {Q:Exit->Act->World->Prop} {oper:Oper} {a a':Act} {x y u:Operand} {mt kt et:TypeId} {Kd:Value->Prop} {kv:List (Value×Value)} {A:Asn} {b i:Nat} {k v z zv r:Value} {ok:Bool}
instance:kN (.any (mj b Kd kv)::As) b Kd kv 0:=⟨rfl⟩
instance[h:kN As b Kd kv i]:kN (A::As) b Kd kv (i+1):=⟨h.out⟩
def Sep.mp(M:Sep As w)(h:kN As b Kd kv i):aK w b kv/\∀p∈kv,Kd p.1:=let ⟨_,h1,_⟩:=M;(h1 i _ h.out).1
def Sep.mge{w0}(M:Sep As w)(h:kN As b Kd kv i:=by infer_instance)[o:Old As w0]:w0.heap.size<=b:=by
 obtain⟨F,h1,h2⟩:=M;obtain⟨j,hj⟩:=o.out;obtain⟨_,hF⟩:=h1 i _ h.out;obtain⟨_,hG⟩:=h1 j _ hj;exact Nat.le_of_not_lt fun ab=>h2 i j _ _ h.out hj (fun e=>by subst e;rw[h.out]at hj;cases hj) trivial b ((hF b).2 rfl) ((hG b).2 ab)
def Sep.al{cs:List Value}{T}{W}(M:Sep As w)(h:w.alloc (.cells cs.toArray T)=W):Sep (.box w.heap.size cs T::As) W:=h▸M.alloc cs T
def Sep.tl(M:Sep (A::As) w):Sep As w:=M.dr 1
def Sep.m0(_:Sep (.any (mj b Kd kv)::As) w)(ab:List (Value×Value))(W:World):Prop:=Sep (.any (mj b Kd ab)::As) W
def KQ(hz:(P.info? et).bind (·.zero)=some zv)(w):(zeroValue et).run P w=.ok zv w:=by
 cases hi:P.info? et with
 |none=>simp[hi]at hz
 |some i=>
  have ab:i.zero=some zv:=by simpa[hi]using hz
  simp[zeroValue,typeInfo,hi,ab,go_sem]
def ml(M:Sep As w)(h:wpList P ops Q rest a' w)(ho:oper.op=.lookup mt x y ok:=by rfl)(hx:evo a x=some (.map (some b)):=by rfl)(hy:evo a y=some k:=by rfl)(hm:P.underlying mt=some (.map kt et):=by rfl)(hC:mq P kt Kd:=by infer_instance)(hH:kN As b Kd kv i:=by infer_instance)(hz:(P.info? et).bind (·.zero)=some z:=by rfl)(hr:LkR kv k z ok r:=by first|exact .some (by assumption)|exact .none (by assumption)|exact .val (by assumption)|exact .nil (by assumption))(hk:Kd k:=by first|exact Fct.out|exact⟨_,rfl⟩|exact⟨_,_,rfl⟩)(hw:Region.wanted oper (yielded ops a.tmps)=true:=by rfl)(e:a.put oper.dst r=a':=by(try simp only[PT]);try rfl):wpList P ops Q (oper::rest) a w:=by
 subst e;have e1:=qE hC.out hm (M.mp hH).1 (M.mp hH).2 hk (KQ hz) ok;have e2:(execOp a.eval oper).run P w=.ok (.value r) w:=by
  unfold execOp;simp only[ho,bU hx,bU hy,NM,e1,NO,NN]
  cases hr with
  |some g=>rw[g.out];rfl
  |none g=>rw[g.out];rfl
  |val g=>rw[g.out];rfl
  |nil g=>rw[g.out];rfl
 simp only[wpList];rw[if_pos hw];refine Or.inl ?_;unfold Oper.wp;rw[e2];exact h
def mu(M:Sep As w)(h:∀{W},Sep Bs W->wpList P ops Q rest a' W)(ho:oper.op=.mapUpdate mt x y u\/oper.op=.insert mt x y u:=by first|exact .inl rfl|exact .inr rfl)(hx:evo a x=some (.map (some b)):=by rfl)(hy:evo a y=some k:=by rfl)(hv:evo a u=some v:=by rfl)(hm:P.underlying mt=some (.map kt et):=by rfl)(hC:mq P kt Kd:=by infer_instance)(hH:kN As b Kd kv i:=by infer_instance)(hk:Kd k:=by first|exact Fct.out|exact⟨_,rfl⟩|exact⟨_,_,rfl⟩)(hw:Region.wanted oper (yielded ops a.tmps)=true:=by rfl)(hu:As.set i (.any (mj b Kd (aF kv k v)))=Bs:=by(try simp only[PS]);try rfl)(e:a.put oper.dst undef=a':=by(try simp only[PT]);try rfl):wpList P ops Q (oper::rest) a w:=by
 subst e;have hB:=M.mp hH;have hg:=lY w b (cB (aF kv k v));have e2:(execOp a.eval oper).run P w=.ok .skip (setBlock w b (cB (aF kv k v))):=by
  unfold execOp;rcases ho with ho|ho <;> simp only[ho,bU hx,bU hy,bU hv,NM,zm hC.out hm hB.1 hB.2 hk v,NO,NN]
 simp only[wpList];rw[if_pos hw];refine Or.inl ?_;unfold Oper.wp;rw[e2,Oper.upon_skip];exact @h _ (hu▸M.upd hH.out trivial fun F ⟨_,h2⟩=>⟨⟨hg.os,hg.tape,hg.output,hg.size,fun j ⟨hj,hn⟩=>hg.block j hj (fun e=>hn ((h2 j).2 (Option.some.inj e)))⟩,F,⟨⟨aK.set hB.1.lt _,Ir hB.2 hk v⟩,h2⟩,fun _ hj=> .inl hj⟩)
def mK{a':Nat->Act}(M:Sep As w)(h:∀{b W},Sep (.any (mj b Kd [])::As) W->wpList P ops Q rest (a' b) W)(ho:oper.op=.makeMap mt none:=by rfl)(hm:P.underlying mt=some (.map kt et):=by rfl)(hC:mq P kt Kd:=by infer_instance)(hr:∀W,(Instr.makeMap mt none).run P W=.ok (.map (some W.heap.size)) (W.alloc (.map #[] 0)):=by exact fun _=>rfl)(hw:Region.wanted oper (yielded ops a.tmps)=true:=by rfl)(e:∀b,a.put oper.dst (.map (some b))=a' b:=by intro b;(try simp only[PT]);try rfl):wpList P ops Q (oper::rest) a w:=by
 have _:=hm;have _:=hC;have e2:(execOp a.eval oper).run P w=.ok (.value (.map (some w.heap.size))) (w.alloc (.map #[] 0)):=by
  unfold execOp;simp only[ho,Option.map_none,NM,hr,NO,NN]
 simp only[wpList];rw[if_pos hw];refine Or.inl ?_;unfold Oper.wp;rw[e2,Oper.upon_value,e];exact @h _ _ (M.push ((NB _ _).alloc (No _) _) (G:=fun k=>k=w.heap.size) ⟨⟨aK.new w,fun _ h=>by cases h⟩,fun _=>Iff.rfl⟩ fun _ hk=>Nat.le_of_eq hk.symm)
end
end
def dM(s:SrcR)(i p:Int)(k:Nat):List Int:=(s.recs.take k).flatMap fun r=>if r.itemNo=i/\r.plantNo=p then [r.frm,r.til]else []
def AG{s:SrcR}{i p:Int}{k:Nat}{x}(hx:s.recs[k]? = some x)(h:x.itemNo=i/\x.plantNo=p):dM s i p (k+1)=dM s i p k++[x.frm,x.til]:=by
 unfold dM;rw[Ox,hx,List.flatMap_append];simp[h]
def AH{s:SrcR}{i p:Int}{k:Nat}{x}(hx:s.recs[k]? = some x)(h:¬(x.itemNo=i/\x.plantNo=p)):dM s i p (k+1)=dM s i p k:=by
 unfold dM;rw[Ox,hx,List.flatMap_append];simp[h]
def KT{s}{i p d:Int}:(d=0\/(d∈dM s i p s.recs.length/\0<d/\d<1024))<->kr s i p d:=by
 unfold dM kr;rw[OK];constructor
 ·rintro(h|⟨h,h1,h2⟩)
  ·exact .inl h
  ·obtain⟨r,hr,hd⟩:=List.mem_flatMap.1 h;split at hd
   ·rename_i hm;simp only[Og,Oh,or_false]at hd;exact .inr ⟨r,hr,hm.1,hm.2,hd,h1,h2⟩
   ·cases hd
 ·rintro(h|⟨r,hr,hm1,ab,hd,h1,h2⟩)
  ·exact .inl h
  ·refine .inr ⟨List.mem_flatMap.2 ⟨r,hr,?_⟩,h1,h2⟩;rw[if_pos ⟨hm1,ab⟩];simpa using hd
def KU(s)(i p:Int)(k:Nat):(dM s i p k).length<=2*k:=by
 induction k with
 |zero=>simp[dM]
 |succ k ih=>
  cases hx:s.recs[k]? with
  |none=>unfold dM at *;rw[Ox,hx];simp at *;omega
  |some x=>
   by_cases h:x.itemNo=i/\x.plantNo=p
   ·rw[AG hx h];simp;omega
   ·rw[AH hx h];omega
structure DSt(L:List Int)(kv:List (Value×Value))(ks:List Int):Prop where
 keys:kv.map (·.1)=ks.map fP
 mem:∀d,d∈ks<->d=0\/(d∈L/\0<d/\d<1024)
 len:ks.length<=1+L.length
def KV(x y:Int)(h:fP x=fP y):x=y:=by unfold fP at h;injection h
section
variable {L:List Int} {kv:List (Value×Value)} {ks:List Int}
def DSt.skip(h:DSt L kv ks)(d:Int)(hd:¬(0<d/\d<1024)):DSt (L++[d]) kv ks:=by
 refine⟨h.keys,fun x=>?_,by have:=h.len;simp;omega⟩;rw[h.mem,Of,Oi];constructor
 ·rintro(e|⟨h1,h2⟩)
  ·exact .inl e
  ·exact .inr ⟨.inl h1,h2⟩
 ·rintro(e|⟨h1|rfl,h2⟩)
  ·exact .inl e
  ·exact .inr ⟨h1,h2⟩
  ·exact absurd h2 hd
def DSt.put(h:DSt L kv ks)(d:Int)(hd:0<d/\d<1024)(v):∃ab,DSt (L++[d]) (aF kv (.int .i64 d) v) ab:=by
 obtain⟨ab,h1,h2,h3⟩:=zQ KV h.keys d v;refine⟨ab,h1,fun x=>?_,by have:=h.len;simp;omega⟩;rw[h2,h.mem,Of,Oi];constructor
 ·rintro((e|⟨h1,h2⟩)|rfl)
  ·exact .inl e
  ·exact .inr ⟨.inl h1,h2⟩
  ·exact .inr ⟨.inr rfl,hd⟩
 ·rintro(e|⟨h1|rfl,h2⟩)
  ·exact .inl (.inl e)
  ·exact .inl (.inr ⟨h1,h2⟩)
  ·exact .inr rfl
end
def KW(W)(x y:Int)(j:Nat)(d:Int)(h:[x,y][j]? = some d):(Instr.index 288 (.agg #[.int .i64 x,.int .i64 y]) (.int .i64 j)).run prog W=.ok (.int .i64 d) W:=by
 rcases j with _|_|j <;> first|(cases h;kernel_rfl)|(simp at h)
def KX(w:World)(s:SrcR)(i p:Int)(e:Ending)(w':World):Prop:=
 eB w w'/\∃(v:Value)(ds:List Int),e=.returned v/\RowC w' 1 v (ds.map af)/\(∀d,d∈ds<->kr s i p d)/\ds.length<=16000000
def AJ{w}{r}(h:aQ w r):((am r).all fun v=>v.oneCell')=true:=by
 obtain⟨_,_,_,_,_,_,_,_,_,_,_,_,f1,f2,f3,f4,_,_⟩:=h.slices';unfold am;rw[f1,f2,f3,f4];rfl
instance:mq prog 3 KdI:=⟨fj _ _ underlying3⟩
def KY(s)(i p:Int)(w)(hS:ap w s):Calls prog 125 #[cS s,.agg #[.int .i64 i,.int .i64 p]] w (KX w s i p):=by
 haveI:=Fct.mk hS;have ar:=hS.rl;unfold BIG at ar;have D0:Hid (DSt (dM s i p 0) (aF [] (.int .i64 0) (.bool true)) [0]):=⟨rfl,by simp[dM],by simp⟩
 have M:=Sep.new w;show Calls _ _ #[.agg (srcC s).toArray,_] _ _;go_enter func125,ntmps125;go_wp2_with(first|(refine ml M ?_)|refine mu M fun M=>?_|refine mK M fun M=>?_|refine mz M fun M=>?_);go_loopw [15] (fun z W=>∃(k:Nat) (kv:List (Value×Value)) (ks:List Int),k<=s.recs.length/\z=.int .i64 k/\Hid (DSt (dM s i p k) kv ks)/\M.m0 kv W) (fun z _=>s.recs.length-(intOf z).toNat)
 case atStart=>exact⟨0,_,_,Nu _,rfl,D0,M⟩
 clear D0;obtain⟨k,kv,ks,hk,rfl,S,M⟩:=hrel;simp only[Sep.m0]at M;by_cases ao:k<s.recs.length
 case neg=>
  obtain rfl:k=s.recs.length:=by omega
  go_wp2_with(first|(refine ml M ?_)|refine mu M fun M=>?_|refine mK M fun M=>?_|refine mz M fun M=>?_);refine(Je _ _).mono ?_;rintro e w6 ⟨rfl,h6⟩;replace M:=M.al (cs:=[_]) h6;clear h6;go_wp2_with(first|(refine ml M ?_)|refine mu M fun M=>?_|refine mK M fun M=>?_|refine mz M fun M=>?_);have hl:=S.len;have ac:=KU s i p s.recs.length;refine(Jt _ _ kv ks _ (M.blk (i:=0) ⟨rfl⟩) (M.mp (i:=1) ⟨rfl⟩).1 S.keys (by have h1:=jg S.keys;omega)).mono ?_;rintro e w7 ⟨ag,v,xs,rfl,ad,ab⟩;obtain⟨A,c7,rfl,an,ab⟩:=ab;go_wp2;go_ret;exact⟨M.bel.trans (ag.mono M.bel.size),.slice A (xs.map jh).length c7,xs,by rw[N6];rfl,⟨A,c7,rfl,an,ab⟩,fun d=>by rw[ad.mem_iff,S.mem];exact KT,by rw[ad.length_eq];omega⟩
 obtain⟨x,hx⟩:=gx (l:=s.recs) (i:=k) ao;haveI:=Fct.mk (AJ (hS.recv x (Oc hx)));have HN:=MY (fun h=>AH (i:=i) (p:=p) hx h);have HY:=MY (fun h=>AG (i:=i) (p:=p) hx h)
 cases h1:x.itemNo != i
 case' false=>cases h2:x.plantNo != p
 case' false.false=>
  have HI:Hid (x.itemNo=i/\x.plantNo=p):=⟨by simpa using h1,by simpa using h2⟩
  go_wp2_with(first|(refine pX 288 _ _ rfl rfl (.int .i64 x.frm) (.int .i64 x.til) rfl rfl _ (ya _ _) ?_)|(refine ml M ?_)|refine mu M fun M=>?_|refine mK M fun M=>?_|refine mz M fun M=>?_);replace M:=M.tl;go_loopw [36] (fun z W=>∃(j:Nat) (kv:List (Value×Value)) (ks:List Int),j<=2/\z=.int .i64 j/\Hid (DSt (dM s i p k++[x.frm,x.til].take j) kv ks)/\M.m0 kv W) (fun z _=>2-(intOf z).toNat)
  case atStart=>exact⟨0,kv,ks,by omega,rfl,by show DSt _ _ _;rw[N3,Oz];exact S.out,M⟩
  clear S;obtain⟨j,kv,ks,hj,rfl,S,M⟩:=hrel;simp only[Sep.m0]at M;by_cases ac:j<2
  case neg=>
   obtain rfl:j=2:=by omega
   go_wp2_with(first|(refine ml M ?_)|refine mu M fun M=>?_|refine mK M fun M=>?_|refine mz M fun M=>?_);go_roundw
   case rel=>exact⟨k+1,kv,ks,by omega,by go_num,by show DSt _ _ _;rw[HY.out HI.out];exact S.out,M⟩
   case measure=>simp[intOf];omega
  obtain⟨d,hd⟩:∃d,[x.frm,x.til][j]? = some d:=⟨_,Nx ac⟩
  have av:=fun W=>KW W x.frm x.til j d hd;have HT:Hid (dM s i p k++[x.frm,x.til].take (j+1)=dM s i p k++[x.frm,x.til].take j++[d]):=by show _=_;rw[Ox,hd,OL];rfl
  have aA:(j:Int)<2:=by omega
  clear hd
  cases h3:decide (0<d)
  case' true=>cases h4:decide (d<1024)
  all_goals
   go_wp2_with(first|(refine xZ 288 _ _ rfl rfl _ _ _ rfl rfl (av _) ?_)|(refine ml M ?_)|refine mu M fun M=>?_|refine mK M fun M=>?_|refine mz M fun M=>?_)
   go_roundw
   case measure=>simp[intOf];omega
  ·exact⟨j+1,kv,ks,by omega,by go_num,by show DSt _ _ _;rw[HT.out];exact S.skip d (by simp at h4;omega),M⟩
  ·obtain⟨ax,S2⟩:=S.put d (by simp at h3 h4;omega) (.bool true);exact⟨j+1,_,ax,by omega,by go_num,by show DSt _ _ _;rw[HT.out];exact S2,M⟩
  ·exact⟨j+1,kv,ks,by omega,by go_num,by show DSt _ _ _;rw[HT.out];exact S.skip d (by simp at h3;omega),M⟩
 all_goals
  go_wp2_with(first|(refine ml M ?_)|refine mu M fun M=>?_|refine mK M fun M=>?_|refine mz M fun M=>?_)
  go_roundw
  case rel=>exact⟨k+1,kv,ks,by omega,by go_num,by show DSt _ _ _;rw[HN.out (by rintro⟨e1,e2⟩;first|(simp[e1]at h1;done)|(simp[e2]at h2))];exact S.out,M.tl⟩
  case measure=>simp[intOf];omega
def qW(s:SrcR)(r:RecR):Bool:=aZ r.itemNo s.items.length&&aZ r.plantNo s.plants.length
def jk(s:SrcR)(k:Nat)(q:Int×Int):Bool:=(s.recs.take k).any fun r=>qW s r&&(decide (r.itemNo=q.1)&&decide (r.plantNo=q.2))
def AK{s:SrcR}{k:Nat}{x}(hx:s.recs[k]? = some x)(q:Int×Int):jk s (k+1) q=(jk s k q||(qW s x&&(decide (x.itemNo=q.1)&&decide (x.plantNo=q.2)))):=by
 unfold jk;rw[Ox,hx,List.any_append];simp
structure PSt(f:Int×Int->Bool)(m:Nat)(kv:List (Value×Value))(ks:List (Int×Int)):Prop where
 keys:kv.map (·.1)=ks.map dY
 mem:∀q,q∈ks<->f q=true
 len:ks.length<=m
def La(x y:Int×Int)(h:dY x=dY y):x=y:=by
 unfold dY at h;simp at h;exact Prod.ext h.1 h.2
section
variable {f g:Int×Int->Bool} {m:Nat} {kv:List (Value×Value)} {ks:List (Int×Int)}
def PSt.skip(h:PSt f m kv ks)(hg:∀q,g q=f q):PSt g (m+1) kv ks:=
 ⟨h.keys,fun q=>by rw[hg];exact h.mem q,by have:=h.len;omega⟩
def PSt.put(h:PSt f m kv ks)(d:Int×Int)(hg:∀q,g q=true<->f q=true\/q=d)(v):∃ab,PSt g (m+1) (aF kv (dY d) v) ab:=by
 obtain⟨ab,h1,h2,h3⟩:=zQ La h.keys d v;exact⟨ab,h1,fun q=>by rw[h2,h.mem,hg],by have:=h.len;omega⟩
end
def Lb(w:World)(s:SrcR)(e:Ending)(w':World):Prop:=
 eB w w'/\∃(v:Value) (ps:List (Int×Int)),e=.returned v/\RowC w' 2 v (ps.map dm)/\(∀q,q∈ps<->iV s q.1 q.2=true)/\ps.length<=16000000
def Lc(x y:Int):prog.built 213 [(0,.int .i64 x),(1,.int .i64 y)]=some #[.int .i64 x,.int .i64 y]:=by kernel_rfl
instance:mq prog 213 KdP:=⟨JR⟩
def Ld(s)(w)(hS:ap w s):Calls prog 124 #[cS s] w (Lb w s):=by
 haveI:=Fct.mk hS;have ao:=hS.rl;unfold BIG at ao;have D0:Hid (PSt (jk s 0) 0 [] []):=⟨rfl,fun q=>by simp[jk],by simp⟩
 have M:=Sep.new w;show Calls _ _ #[.agg (srcC s).toArray] _ _;go_enter func124,ntmps124;go_wp2_with(first|(refine ml M ?_)|refine mu M fun M=>?_|refine mK M fun M=>?_|refine mz M fun M=>?_);go_loopw [10] (fun z W=>∃(k:Nat) (kv:List (Value×Value)) (ks:List (Int×Int)),k<=s.recs.length/\z=.int .i64 k/\Hid (PSt (jk s k) k kv ks)/\M.m0 kv W) (fun z _=>s.recs.length-(intOf z).toNat)
 case atStart=>exact⟨0,_,_,Nu _,rfl,D0,M⟩
 clear D0;obtain⟨k,kv,ks,hk,rfl,S,M⟩:=hrel;simp only[Sep.m0]at M;by_cases an:k<s.recs.length
 case neg=>
  obtain rfl:k=s.recs.length:=by omega
  go_wp2_with(first|(refine ml M ?_)|refine mu M fun M=>?_|refine mK M fun M=>?_|refine mz M fun M=>?_);refine(Jj _ _).mono ?_;rintro e w6 ⟨rfl,h6⟩;replace M:=M.al (cs:=[_]) h6;clear h6;go_wp2_with(first|(refine ml M ?_)|refine mu M fun M=>?_|refine mK M fun M=>?_|refine mz M fun M=>?_);have hl:=S.len;refine(Jz _ _ kv ks _ (M.blk (i:=0) ⟨rfl⟩) (M.mp (i:=1) ⟨rfl⟩).1 S.keys (by have h1:=jg S.keys;omega)).mono ?_;rintro e w7 ⟨ad,v,xs,rfl,ac,ab⟩;obtain⟨A,c7,rfl,ag,ab⟩:=ab;go_wp2;go_ret;refine⟨M.bel.trans (ad.mono M.bel.size),.slice A (xs.map dm).length c7,xs,by rw[N6];rfl,⟨A,c7,rfl,ag,ab⟩,fun q=>?_,by rw[ac.length_eq];omega⟩;rw[ac.mem_iff,S.mem];unfold jk iV qW;rw[OK]
 obtain⟨x,hx⟩:=gx (l:=s.recs) (i:=k) an;haveI:=Fct.mk (AJ (hS.recv x (Oc hx)));have HX:=MY hx;have HG:Hid (qW s x=(decide (0<=x.itemNo)&&decide (x.itemNo<(s.items.length:Int))&&(decide (0<=x.plantNo)&&decide (x.plantNo<(s.plants.length:Int))))):=rfl
 cases h1:decide (0<=x.itemNo)
 case' true=>cases h2:decide (x.itemNo<(s.items.length:Int))
 case' true.true=>cases h3:decide (0<=x.plantNo)
 case' true.true.true=>cases h4:decide (x.plantNo<(s.plants.length:Int))
 case' true.true.true.true=>
  obtain⟨ar,S2⟩:=S.put (g:=jk s (k+1)) (x.itemNo,x.plantNo) (fun q=>by
   rw[AK HX.out,HG.out,h1,h2,h3,h4];simp only[Np,Bool.or_eq_true,Ob,decide_eq_true_eq];constructor
   ·rintro(h|⟨h1,h2⟩)
    ·exact .inl h
    ·exact .inr (Prod.ext h1.symm h2.symm)
   ·rintro(h|rfl)
    ·exact .inl h
    ·exact .inr ⟨rfl,rfl⟩) (.bool true)
  replace S2:=MY S2;go_wp2_with(first|(refine pX 213 _ _ rfl rfl (.int .i64 x.itemNo) (.int .i64 x.plantNo) rfl rfl _ (Lc _ _) ?_)|(refine ml M ?_)|refine mu M fun M=>?_|refine mK M fun M=>?_|refine mz M fun M=>?_);go_roundw
  case rel=>exact⟨k+1,_,ar,by omega,by go_num,S2,M.tl⟩
  case measure=>simp[intOf];omega
 all_goals
  have S2:Hid (PSt (jk s (k+1)) (k+1) kv ks):=S.skip fun q=>by rw[AK HX.out,HG.out];simp[*]
  go_wp2_with(first|(refine ml M ?_)|refine mu M fun M=>?_|refine mK M fun M=>?_|refine mz M fun M=>?_)
  go_roundw
  case rel=>exact⟨k+1,kv,ks,by omega,by go_num,S2,M.tl⟩
  case measure=>simp[intOf];omega
def OkP(s:SrcR)(q:Int×Int):Prop:=∀d,kr s q.1 q.2 d->∀c∈fd s,(bV s q.1 q.2 d c).length=1
def Le{s}(hv:bB s=true){ps:List (Int×Int)}(ab:∀q,q∈ps<->iV s q.1 q.2=true):(∀q∈ps,OkP s q)<->iW s:=by
 constructor
 ·intro h i p d c h1 h2 h3;exact h (i,p) ((ab (i,p)).2 h1) d h2 c ((pT hv c).2 h3)
 ·intro h q hq d hd c hc;exact h q.1 q.2 d c ((ab q).1 hq) hd ((pT hv c).1 hc)
def uG(b:Nat)(W)(tmps:Array Value)(ok:Bool)(k x1 x2 x3 x5:Int)(A)(n c:Nat)(h2:tmps.getD 2 undef=.pointer b)(h3:tmps.getD 3 undef=.bool ok)(h4:tmps.getD 4 undef=.int .i64 k)(K:Blk W b [.int .i64 x1,.int .i64 x2,.int .i64 x3,.slice A n c,.int .i64 x5] 141) :(results Tryz.f72 tmps).run prog W=.ok (.tuple #[.agg #[.int .i64 x1,.int .i64 x2,.int .i64 x3,.slice A n c,.int .i64 x5],.bool ok,.int .i64 k]) W:=by
 rw[Ow]at h2 h3 h4;have r0:=(K.at 0 _ rfl).1;have r1:=(K.at 1 _ rfl).1;have r2:=(K.at 2 _ rfl).1;have r3:=(K.at 3 _ rfl).1;have r4:=(K.at 4 _ rfl).1;simp[results,results72,go_sem,h2,h3,h4,r0,r1,r2,r3,r4]
def kO{α:Type}{P:α->Prop}{l:List α}{k:Nat}{x:α}(h:∀y∈l.take k,P y)(hx:l[k]? = some x)(hp:P x):∀y∈l.take (k+1),P y:=by
 intro y hy;rw[Ox,hx,Of]at hy;rcases hy with hy|hy
 ·exact h y hy
 ·simp only[Option.toList_some,Oi]at hy;subst hy;exact hp
def Lf(x y z m:Int)(A)(n c:Nat):prog.built 141 [(0,.int .i64 x),(1,.int .i64 y),(2,.int .i64 z),(3,.slice A n c),(4,.int .i64 m)]=some #[.int .i64 x,.int .i64 y,.int .i64 z,.slice A n c,.int .i64 m]:=by kernel_rfl
def Lg(s)(w)(hS:ap w s):Calls prog 72 #[cS s] w (yE w s):=by
 have HS:=MY (fun W (hW:eB w W)=>hS.below hW);have HV:=MY (fun W (hW:eB w W)=>sX s W (hS.below hW));have bl:=MY (fun W (hW:eB w W)=>yQ s W (hS.below hW));have cd:=MY (fun B W (hW:eB w W) (hv:bB s=true) (hB:Blk W B (srcC s) 31)=>yP B s W (hS.below hW) hv hB);have cp:=MY (fun W (hW:eB w W)=>Ld s W (hS.below hW));have cc:=MY (fun W (q:Int×Int) (hW:eB w W)=>KY s q.1 q.2 W (hS.below hW));have cu:=MY (fun W (q:Int×Int) (d:Int) (cv:Value) (c:List Int) (hW:eB w W) (hc:RowC W 1 cv (c.map af)) (hl:c.length<=1048576)=>xW s q.1 q.2 d cv c W (hS.below hW) hc hl);obtain⟨A1,A2,A3,A4,A5,A6,A7,A8,k1,k2,k3,k4,k5,k6,k7,k8,e1,e2,e3,e4,e5,e6,e7,e8⟩:=hS.slices;obtain⟨n1,dn⟩:=nm s.units.length;obtain⟨n2,dr⟩:=nm s.items.length;obtain⟨n3,dv⟩:=nm s.plants.length;obtain⟨n4,dy⟩:=nm s.machs.length;obtain⟨n5,dT⟩:=nm s.opts.length;obtain⟨n6,ea⟩:=nm s.forbs.length;obtain⟨n7,eb⟩:=nm s.recs.length;obtain⟨n8,ec⟩:=nm s.swaps.length;rw[dn]at e1;rw[dr]at e2;rw[dv]at e3;rw[dy]at e4;rw[dT]at e5;rw[ea]at e6;rw[eb]at e7;rw[ec]at e8;have hq:srcC s=[.slice A1 n1 k1,.slice A2 n2 k2,.slice A3 n3 k3,.slice A4 n4 k4,.slice A5 n5 k5,.slice A6 n6 k6,.slice A7 n7 k7,.slice A8 n8 k8]:=by
  unfold srcC;rw[e1,e2,e3,e4,e5,e6,e7,e8]
 have ee:cS s=.agg #[.slice A1 n1 k1,.slice A2 n2 k2,.slice A3 n3 k3,.slice A4 n4 k4,.slice A5 n5 k5,.slice A6 n6 k6,.slice A7 n7 k7,.slice A8 n8 k8]:=by
  unfold cS;rw[e1,e2,e3,e4,e5,e6,e7,e8]
 rw[ee]at HV bl cp cc cu⊢;rw[hq]at bl cd;have co:=MY hS.ol;unfold BIG at co;clear hq ee e1 e2 e3 e4 e5 e6 e7 e8 hS dn dr dv dy dT ea eb ec;obtain⟨ov,bu⟩:=nm (bB s);have ac:=MY bu;rw[bu]at HV;clear bu;obtain⟨w1,bd⟩:=nm ((w.alloc (.cells #[.slice A1 n1 k1,.slice A2 n2 k2,.slice A3 n3 k3,.slice A4 n4 k4,.slice A5 n5 k5,.slice A6 n6 k6,.slice A7 n7 k7,.slice A8 n8 k8] 31)).alloc (.cells #[.int .i64 0,.int .i64 0,.int .i64 0,.slice none 0 0,.int .i64 0] 141));have eg:w1.heap.size=w.heap.size+1+1:=by rw[<-bd];simp
 have B1:Hid (eB w w1):=by rw[<-bd];exact((NB w.heap.size w).alloc (No _) _).alloc (by simp) _
 have K1:Hid (Blk w1 w.heap.size [.slice A1 n1 k1,.slice A2 n2 k2,.slice A3 n3 k3,.slice A4 n4 k4,.slice A5 n5 k5,.slice A6 n6 k6,.slice A7 n7 k7,.slice A8 n8 k8] 31):=by rw[<-bd];exact(Blk.new w [.slice A1 n1 k1,.slice A2 n2 k2,.slice A3 n3 k3,.slice A4 n4 k4,.slice A5 n5 k5,.slice A6 n6 k6,.slice A7 n7 k7,.slice A8 n8 k8] 31).alloc _
 have Z1:Hid (Blk w1 (w.heap.size+1) [.int .i64 0,.int .i64 0,.int .i64 0,.slice none 0 0,.int .i64 0] 141):=by
  rw[<-bd];have:=Blk.new (w.alloc (.cells #[.slice A1 n1 k1,.slice A2 n2 k2,.slice A3 n3 k3,.slice A4 n4 k4,.slice A5 n5 k5,.slice A6 n6 k6,.slice A7 n7 k7,.slice A8 n8 k8] 31)) [.int .i64 0,.int .i64 0,.int .i64 0,.slice none 0 0,.int .i64 0] 141;rw[NU]at this;exact this
 have eV:=MY eg;clear eg;go_enter func72,ntmps72;go_wp2_with fail;clear bd;refine wp_scope_straight ?_;go_wp2_with (refine wR 31 (ai K1.out) ?_);refine(HV.out _ B1.out).mono ?_;rintro e w2 ⟨rfl,bh⟩;have B2:=MY (B1.trans (bh.mono B1.size));have K2:=MY (K1.below bh K1.lt);have Z2:=MY (Z1.below bh Z1.lt);clear bh B1 K1 Z1
 cases ov with
 |false=>
  go_wp2_with (refine eT 141 5 (by kernel_rfl) rfl (.tmp 2) (.tmp 17) rfl rfl (w.heap.size+1) rfl [.int .i64 0,.int .i64 0,.int .i64 0,.slice none 0 0,.int .i64 0] rfl [.int .i64 0,.int .i64 0,.int .i64 0,.slice none 0 0,.int .i64 0] _ Z2.out rfl rfl rfl ?_;intro w3 eS eu)
  rw[NE]
  refine bodyPost_ret (uG (w.heap.size+1) _ _ false 130 0 0 0 0 none 0 0 rfl rfl rfl eS) rfl ?_
  exact⟨B2.grown eu B2.size (fun k e=>by cases e;omega),_,_,_,_,_,_,_,_,_,rfl,⟨fun h=>(by cases h),fun h=>(by rw[ac.out]at h;cases h)⟩,fun h=>(by rw[ac.out]at h;cases h)⟩
 |true=>
 obtain⟨W3,an⟩:=nm (w2.alloc (.cells ([.slice A1 n1 k1,.slice A2 n2 k2,.slice A3 n3 k3,.slice A4 n4 k4,.slice A5 n5 k5,.slice A6 n6 k6,.slice A7 n7 k7,.slice A8 n8 k8]).toArray 31));have B3:Hid (eB w W3):=by rw[<-an];exact B2.alloc B2.size _
 have C3:Hid (Blk W3 w2.heap.size [.slice A1 n1 k1,.slice A2 n2 k2,.slice A3 n3 k3,.slice A4 n4 k4,.slice A5 n5 k5,.slice A6 n6 k6,.slice A7 n7 k7,.slice A8 n8 k8] 31):=by rw[<-an];exact Blk.new _ _ _
 have K3:Hid (Blk W3 w.heap.size [.slice A1 n1 k1,.slice A2 n2 k2,.slice A3 n3 k3,.slice A4 n4 k4,.slice A5 n5 k5,.slice A6 n6 k6,.slice A7 n7 k7,.slice A8 n8 k8] 31):=by rw[<-an];exact K2.alloc _
 have Z3:Hid (Blk W3 (w.heap.size+1) [.int .i64 0,.int .i64 0,.int .i64 0,.slice none 0 0,.int .i64 0] 141):=by rw[<-an];exact Z2.alloc _
 have cr:=MY an;clear an;go_wp2_with (first|(refine wR 31 (ai K2.out) ?_)|(go_at_call 123;refine(bl.out _ B2.out).mono ?_;rintro e w3 ⟨rfl,el⟩;rw[cr.out]at el;subst el));refine(cd.out w2.heap.size W3 B3.out ac.out C3.out).mono ?_;rintro e w4 ⟨bi,vC,xs,rfl,em,bv,db⟩;have B4:=MY (B3.trans (bi.mono B3.size));have K4:=MY (K3.below bi K3.lt);have Z4:=MY (Z3.below bi Z3.lt);obtain⟨AC,cC,eC,_,_⟩:=id bv;rw[N6]at eC;subst eC;have R4:=MY bv;have C4:=MY db;have bo:=MY em;clear bv db em bi B3 C3 K3 Z3 cr B2 K2 Z2;go_wp2_with fail;refine wp_label ?_;go_wp2_with (refine wR 31 (ai K4.out) ?_);refine(cp.out _ B4.out).mono ?_;rintro e w5 ⟨ao,vP,ps,rfl,ef,ed,dk⟩;have B5:=MY (B4.trans (ao.mono B4.size));have K5:=MY (K4.below ao K4.lt);have Z5:=MY (Z4.below ao Z4.lt);have R5:=MY (R4.below ao);have C5:=MY (fun x hx=>(C4.out x hx).below ao);obtain⟨AP,cP,eP,_,ag⟩:=id ef;rw[N6]at eP;subst eP;have P5:=MY ag;have cq:=MY (Le ac.out ed);have ar:=MY B5.size;obtain⟨nP,bt⟩:=nm ps.length;have cn:=MY bt;rw[bt]at dk⊢;obtain⟨nC,bk⟩:=nm xs.length;have ci:=MY bk;have ew:nC<=4096:=by
  have h1:=yq s;have h2:=tc ac.out;have h3:=congrArg List.length bo.out;rw[N6,bk]at h3;omega
 rw[bk]at R5⊢;clear ef ed ao B4 K4 Z4 R4 C4 ag bt bk;go_wp2_with fail;go_loopw [3,24] (fun o z W=>∃a:Nat,a<=nP/\o=.bool false/\z=.int .i64 a/\Hid (eB w5 W)/\Hid (∀q∈ps.take a,OkP s q)) (fun _ z _=>nP-(intOf z).toNat)
 case atStart=>exact⟨0,Nu _,rfl,rfl,NB _ _,(by show ∀q∈List.take 0 ps,_;simp)⟩
 case round=>
  obtain⟨a,ha,rfl,rfl,S5,HA⟩:=hrel;by_cases fi:a<nP
  case neg=>
   obtain rfl:nP=a:=by omega
   have Z6:=MY (Z5.below S5.out Z5.lt);have B6:=MY (B5.trans (S5.mono ar.out));clear K5 Z5 C5 R5;go_wp2_with (first|(refine wR 141 (ai Z6.out) ?_)|(refine eT 141 5 (by kernel_rfl) rfl (.tmp 2) (.tmp 68) rfl rfl (w.heap.size+1) rfl [.int .i64 0,.int .i64 0,.int .i64 0,.slice none 0 0,.int .i64 0] rfl [.int .i64 0,.int .i64 0,.int .i64 0,.slice none 0 0,.int .i64 0] _ Z6.out rfl rfl rfl ?_;intro w9 eU ev));rw[NE];refine bodyPost_ret (uG (w.heap.size+1) _ _ false 0 0 0 0 0 none 0 0 rfl rfl rfl eU) rfl ?_;refine⟨B6.grown ev B6.size (fun k e=>by cases e;omega),_,_,_,_,_,_,_,_,_,rfl,⟨fun _=>ac.out,fun _=>rfl⟩,fun _=>⟨fun _=>cq.1 ?_,fun _=>rfl⟩⟩;have:=HA.out;rw[Ny (by rw[cn.out];exact No _)]at this;exact this
  obtain⟨q,hq⟩:=gx (l:=ps) (i:=a) (by have:=cn.out;omega);obtain⟨bb,off,rfl,cz,hc⟩:=P5.out a (dm q) (by rw[Ou,hq];rfl);have HQ:=MY hq;have HL:Hid (wr.rangeAt bb (off+a*2) [.int .i64 q.1,.int .i64 q.2]):=fun j v hv=>(S5.cell (p:=⟨bb,_,none⟩) cz).trans (hc j v hv);obtain⟨eY,fb⟩:=ix (k:=a) (n:=nP);obtain⟨W0,hW⟩:=nm (wr.alloc (.cells ([.int .i64 q.1,.int .i64 q.2]).toArray 213));have cw:=MY hW;have X6:Hid (Blk W0 wr.heap.size [.int .i64 q.1,.int .i64 q.2] 213):=by rw[<-hW];exact Blk.new _ _ _
  have S6:Hid (eB w5 W0):=by rw[<-hW];exact S5.alloc S5.size _
  have K6:=MY (K5.below S6.out K5.lt);have B6:=MY (B5.trans (S6.mono ar.out));clear hc cz hq hW;go_upto_region 7 with(first|(refine wR 213 HL.out ?_)|(refine wB (rfl:_=wr.heap.size) rfl ?_ (cs:=[.int .i64 q.1,.int .i64 q.2])))
  change Code.wp _ _ _ _ (wr.alloc (.cells ([.int .i64 q.1,.int .i64 q.2]).toArray 213));rw[cw.out];clear cw HL;simp only[PT];go_wp2_with (first|(refine wR 31 (ai K6.out) ?_)|(refine wR 213 (ai X6.out) ?_));refine(cc.out W0 q B6.out).mono ?_;rintro e w7 ⟨av,vD,ds,rfl,eA,df,di⟩;have S7:=MY (S6.trans (av.mono S6.size));have B7:=MY (B6.trans (av.mono B6.size));have X7:=MY (X6.below av X6.lt);have K7:=MY (K6.below av K6.lt);have Z7:=MY (Z5.below S7.out Z5.lt);have C7:=MY (fun x hx=>(C5.out x hx).below S7.out);obtain⟨AR,cR,eR,_,al⟩:=R5.below S7.out;replace eR:=(Value.slice.inj eR).1;subst eR;have R7:=MY al;obtain⟨AD,cD,eD,_,ad⟩:=eA;rw[N6]at eD;subst eD;obtain⟨nD,bs⟩:=nm ds.length;have cm:=MY bs;rw[bs]at di⊢;have D7:=MY ad;have cf:=MY df;have bn:=MY B7.size;clear al ad df av bs X6 K6 B6 S6;go_wp2_with fail;go_loopw [3,32] (fun o z W=>∃b:Nat,b<=nD/\o=.bool false/\z=.int .i64 b/\Hid (eB w7 W)/\Hid (∀d∈ds.take b,∀x∈xs,(bV s q.1 q.2 d x.c).length=1)) (fun _ z _=>nD-(intOf z).toNat)
  case atStart=>exact⟨0,Nu _,rfl,rfl,NB _ _,(by show ∀q∈List.take 0 ds,_;simp)⟩
  case round=>
   obtain⟨b,hb,rfl,rfl,S8,HB⟩:=hrel;by_cases ex:b<nD
   case neg=>
    obtain rfl:nD=b:=by omega
    have ep:Hid (OkP s q):=by
     intro d hd c hc;have h1:=HB.out;rw[Ny (by rw[cm.out];exact No _)]at h1;rw[<-bo.out]at hc;obtain⟨x,hx,rfl⟩:=List.mem_map.1 hc;exact h1 d ((cf.out d).2 hd) x hx
    go_wp2_with fail;refine⟨⟨a+1,by omega,rfl,by go_num,S7.trans (S8.mono S7.size),kO HA.out HQ.out ep.out⟩,?_⟩;simp[intOf];omega
   obtain⟨d,hd⟩:=gx (l:=ds) (i:=b) (by have:=cm.out;omega);obtain⟨b1,o1,rfl,ax,cN⟩:=D7.out b (af d) (by rw[Ou,hd];rfl);have ch:=MY hd;have qd:=(S8.cell (p:=⟨b1,_,none⟩) ax).trans (cN 0 _ rfl);simp only[Na,Nat.mul_one]at qd;obtain⟨fc,fe⟩:=ix (k:=b) (n:=nD);clear cN ax hd;go_wp2_with fail;clear qd;go_loopw [3,38] (fun o z W=>∃m:Nat,m<=nC/\o=.bool false/\z=.int .i64 m/\Hid (eB w7 W)/\Hid (∀x∈xs.take m,(bV s q.1 q.2 d x.c).length=1)) (fun _ z _=>nC-(intOf z).toNat)
   case atStart=>exact⟨0,Nu _,rfl,rfl,S8.out,(by show ∀q∈List.take 0 xs,_;simp)⟩
   case round=>
    obtain⟨m,hm,rfl,rfl,S9,HM⟩:=hrel;by_cases ez:m<nC
    case neg=>
     obtain rfl:nC=m:=by omega
     go_wp2_with fail;refine⟨⟨b+1,by omega,rfl,by go_num,S9.out,kO HB.out ch.out (fun x hx=>?_)⟩,?_⟩
     ·have h1:=HM.out;rw[Ny (by rw[ci.out];exact No _)]at h1;exact h1 x hx
     ·simp[intOf];omega
    obtain⟨x,hx⟩:=gx (l:=xs) (i:=m) (by have:=ci.out;omega);obtain⟨b2,o2,rfl,aA,hc2⟩:=R7.out m [x.v] (by rw[Ou,hx];rfl);have HX:=MY hx;have qx:wr.cell? ⟨b2,o2+m,none⟩=some (.slice x.a x.n x.k):=by
     have:=(S9.cell (p:=⟨b2,_,none⟩) aA).trans (hc2 0 _ rfl);simp only[Na,Nat.mul_one]at this;exact this
    obtain⟨hm0,hm1⟩:=ix (k:=m) (n:=nC);have bw:=Oc hx;have B9:=MY (B7.trans (S9.mono bn.out));have K9:=MY (K7.below S9.out K7.lt);have X9:=MY (X7.below S9.out X7.lt);have Z9:=MY (Z7.below S9.out Z7.lt);have bp:x.c∈fd s:=by rw[<-bo.out];exact List.mem_map_of_mem bw
    have bc:=(pT ac.out x.c).1 bp;have dd:x.c.length<=1048576:=by
     have h1:=(iY.1 (by unfold cI at bc;simp only[Ob]at bc;exact bc.2.1)).1;have h2:=co.out;omega
    have bg:=MY (cu.out wr q d (.slice x.a x.n x.k) x.c B9.out ((C7.out x bw).below S9.out) dd);have eo:=MY bp;unfold xU nI at bg;rw[if_pos bc]at bg;obtain⟨ln,dl⟩:=nm ((bV s q.1 q.2 d x.c).length);have bm:=MY dl;obtain⟨x0,x1⟩:=li X9.out;clear hc2 aA hx bw bp bc dd dl;go_wp2_with (refine wR 31 (ai K9.out) ?_);refine bg.mono ?_;rintro e fl ⟨ab,vl,rfl,ei⟩;obtain⟨Al,cl,rfl⟩:=ei.slice;rw[N6,bm.out];have ca:=MY (B9.trans (ab.mono B9.size));have er:=MY (S9.trans (ab.mono S9.size));have es:=MY (X9.below ab X9.lt);have et:=MY (Z9.below ab Z9.lt);clear ab ei x0 x1 bg X9 Z9 K9 B9 qx;by_cases h1:ln=1
    case pos=>
     have g1:((ln:Int) != 1)=false:=by simp[h1]
     have HE:=MY (bm.trans h1);clear h1;go_wp2_with fail;refine⟨⟨m+1,by omega,rfl,by go_num,er.out,kO HM.out HX.out HE.out⟩,?_⟩;simp[intOf];omega
    have g1:((ln:Int) != 1)=true:=by simp;omega
    have HE:Hid (¬iW s):=by
     intro h;have h2:=cq.2 h q (Oc HQ.out) d ((cf.out d).1 (Oc ch.out)) x.c eo.out;rw[bm.out]at h2;exact h1 h2
    clear dk di ew;obtain⟨x0,x1⟩:=li es.out;clear h1;go_wp2_with (first|(refine xY 141 _ rfl rfl _ rfl [(0,.int .i64 q.1),(1,.int .i64 q.2),(2,.int .i64 d),(3,.slice x.a x.n x.k),(4,.int .i64 (ln:Int))] rfl _ (Lf _ _ _ _ _ _ _) ?_)|(refine eT 141 5 (by kernel_rfl) rfl (.tmp 2) (.tmp 64) rfl rfl (w.heap.size+1) rfl [.int .i64 q.1,.int .i64 q.2,.int .i64 d,.slice x.a x.n x.k,.int .i64 (ln:Int)] rfl [.int .i64 0,.int .i64 0,.int .i64 0,.slice none 0 0,.int .i64 0] _ et.out rfl rfl rfl ?_;intro fn be ba;have cx:=MY be;have en:=MY ba;clear be ba)|(refine wR 141 (ai cx.out) ?_)|(refine eT 141 5 (by kernel_rfl) rfl (.tmp 2) (.tmp 68) rfl rfl (w.heap.size+1) rfl [.int .i64 q.1,.int .i64 q.2,.int .i64 d,.slice x.a x.n x.k,.int .i64 (ln:Int)] rfl [.int .i64 q.1,.int .i64 q.2,.int .i64 d,.slice x.a x.n x.k,.int .i64 (ln:Int)] _ cx.out rfl rfl rfl ?_;intro fo bx br));rw[NE];refine bodyPost_ret (uG (w.heap.size+1) _ _ true 0 _ _ _ _ _ _ _ rfl rfl rfl bx) rfl ?_;have cb:=ca.grown en.out ca.size (fun k e=>by cases e;omega);exact⟨cb.grown br cb.size (fun k e=>by cases e;omega),_,_,_,_,_,_,_,_,_,rfl,⟨fun _=>ac.out,fun _=>rfl⟩,fun _=>⟨fun h=>(by cases h),fun h=>absurd h HE.out⟩⟩
end Go.Proofs.YtgbbhcbkldhjiaaGreatDoor
