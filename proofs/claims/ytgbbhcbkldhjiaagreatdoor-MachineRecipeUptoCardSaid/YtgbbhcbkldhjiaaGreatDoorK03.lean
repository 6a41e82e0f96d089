import Derived.Test.YtgbbhcbkldhjiaaGreatDoorK02
import Derived.Laws.EntriesVeiled
import Derived.Test.YtgbbhcbkldhjiaaGreatDoorRows
import Derived.JoinedOf
import Derived.KernelRfl
import Derived.SevenTiedAt
set_option linter.all false
set_option maxRecDepth 100000
set_option maxHeartbeats 16000000
namespace Go.Proofs.YtgbbhcbkldhjiaaGreatDoor
open Go.Proofs.Tryz Go.RowKit Bf
section
open Go Go.RowKit
abbrev OE:=@List.mem_map
end
section
variable {As:List Asn} {w0:World}
instance btw_con{n l g:Int}:aB prog 31 #[.int .i64 n,.int .i64 l,.int .i64 g] As (.bool (btw n l g)):=⟨fun w M=>by
 unfold btw
 cases h1:decide (l<=n)
 case' true=>cases h2:decide (n<=g)
 all_goals
  go_enter func31,ntmps31
  go_wp2
  go_ret
  exact⟨rfl,NB _ _⟩⟩
instance alz_con{neg:Bool}{n d:ByteArray}[Old As w0][hT:Fct (Tab w0)]:aB prog 69 #[.agg #[.bool neg,.string n,.string d]] As (.bool (alz neg n d)):=⟨fun w M=>by
 have hW:=hT.1.below M.bel;replace M:=Sep.new w;haveI:∀As [Old As w],aB prog 8 #[.agg #[.bool neg,.string n,.string d]] As (.int .i64 (rchk neg n d)):=fun As _=>⟨fun W M=>iP neg n d W (hW.below M.bel)⟩
 unfold alz
 cases h:rchk neg n d==0;all_goals
  go_enter func69,ntmps69
  go_wp2_with refine mz M fun M=>?_
  refine mr M ⟨?_,M.bel⟩
  simp
  try rfl⟩
instance valid_con{x:In}{after:Int}[Old As w0][hT:Fct (Tab w0)]:aB prog 38 #[.agg (au x).toArray,.int .i64 after] As (.bool (bD x after)):=⟨fun w M=>by
 haveI:=Fct.mk (hT.1.below M.bel);replace M:=Sep.new w;obtain⟨op,A,B,neg,n,d⟩:=x;by_cases h0:1<=op/\op<=8
 ·rcases op_cases h0 with rfl|rfl|rfl|rfl|rfl|rfl|rfl|rfl
  case' inl=>
   cases h1:btw A (-2) 5
   case' true=>cases h2:btw B 0 1024
  case' inr.inl=>cases h1:decide (0<=A)
  case' inr.inr.inl=>
   cases h1:alz neg n d
   case' true=>
    cases h2:n.toList.isEmpty
    case' false=>cases h3:btw A 0 63
  case' inr.inr.inr.inl=>
   cases h1:alz neg n d
   case' true=>cases h2:btw A 0 31
  case' inr.inr.inr.inr.inl=>
   cases h1:alz neg n d
   case' true=>cases h2:btw A 0 31
  case' inr.inr.inr.inr.inr.inl=>cases h1:btw A 0 15
  all_goals
   go_enter func38,ntmps38
   go_wp2_with refine mz M fun M=>?_
   refine mr M ⟨?_,M.bel⟩
   simp[bD, *]
   try rfl
 ·have h1:(op==1)=false:=by rw[beq_eq_false_iff_ne];omega
  have h2:(op==2)=false:=by rw[beq_eq_false_iff_ne];omega
  have h3:(op==3)=false:=by rw[beq_eq_false_iff_ne];omega
  have h4:(op==4)=false:=by rw[beq_eq_false_iff_ne];omega
  have h5:(op==5)=false:=by rw[beq_eq_false_iff_ne];omega
  have h6:(op==6)=false:=by rw[beq_eq_false_iff_ne];omega
  have h7:(op==7)=false:=by rw[beq_eq_false_iff_ne];omega
  have h8:(op==8)=false:=by rw[beq_eq_false_iff_ne];omega
  go_enter func38,ntmps38;go_wp2_with refine mz M fun M=>?_;refine mr M ⟨?_,M.bel⟩;unfold bD;rw[if_neg (by simp only;omega),if_neg (by simp only;omega),if_neg (by simp only;omega),if_neg (by simp only;omega),if_neg (by simp only;omega),if_neg (by simp only;omega),if_neg (by simp only;omega),if_neg (by simp only;omega)];rfl⟩
end
def sB{w}{v}{l:List In}(h:RowC w 6 v (l.map au))(hl:l.length<=4096)(hT:Tab w):Calls prog 20 #[v] w (Ret w (.int .i64 (iQ l))):=by
 haveI:=Fct.mk hT;haveI:ah w v In 6 l au:=⟨h,by omega⟩
 have M:=Sep.new w;by_cases h0:l.length=0
 ·have:iQ l=171:=mU fun h=>by have:=h.1;omega
  rw[this];have t0:((l.length:Int)==0)=true:=by rw[h0];rfl
  clear h0;go_enter func20,ntmps20;go_wp2_with refine mz M fun M=>?_;exact mr M ⟨rfl,M.bel⟩
 have t0:((l.length:Int)==0)=false:=by rw[beq_eq_false_iff_ne];omega
 have t1:decide (4096<(l.length:Int))=false:=by simp;omega
 go_enter func20,ntmps20;go_wp2_with refine mz M fun M=>?_;go_loopw [16] (fun i W=>∃k:Nat,k<=l.length/\i=.int .i64 k/\Hid (∀(i:Nat)(x:In),i<k->l[i]? = some x->bD x ((l.length:Int)-1-i)=true)/\M.w0 W) (fun i _=>l.length-(intOf i).toNat)
 case atStart=>exact⟨0,Nu _,rfl,fun i x hi=>by omega,M⟩
 obtain⟨k,hk,rfl,HV,M⟩:=hrel;simp only[Sep.w0]at M;by_cases al:k<l.length
 ·obtain⟨x,hx⟩:=gx (l:=l) (i:=k) al
  cases hv:bD x ((l.length:Int)-1-(k:Int))
  ·go_wp2_with refine mz M fun M=>?_;refine mr M ⟨?_,M.bel⟩;rw[mU fun h=>by have:=h.2.2.1 k x hx;rw[hv]at this;cases this];rfl
  ·have HX:=MY hv;go_wp2_with refine mz M fun M=>?_;go_roundw
   case rel=>
    refine⟨k+1,by omega,by go_num,fun i y hi hy=>?_,M.dr 1⟩;by_cases e:i=k
    ·subst e;rw[hx]at hy;cases hy;exact HX.out
    ·exact HV.out i y (by omega) hy
   case measure=>simp[intOf];omega
 ·obtain⟨x,hx⟩:=gx (l:=l) (i:=l.length-1);have hi:Hid ((0:Int)<=(l.length:Int)-1/\l[((l.length:Int)-1).toNat]? = some x):=⟨by omega,by rw[show((l.length:Int)-1).toNat=l.length-1 by omega];exact hx⟩
  have ab:x.op=7\/x.op=8->iQ l=0:=fun h=>rZ ⟨by omega,by omega,fun i y hy=>HV.out i y (by have:=(NQ.1 hy).1;omega) hy,fun y hy=>by rw[hx]at hy;cases hy;exact h⟩;have ac:¬(x.op=7\/x.op=8)->iQ l=171:=fun h=>mU fun h'=>h (h'.2.2.2 x hx);replace ab:=MY ab;replace ac:=MY ac
  cases h7:x.op==7
  case' false=>cases h8:x.op==8
  all_goals
   have ad:(x.op != 7) = !(x.op==7):=rfl
   have ag:(x.op != 8) = !(x.op==8):=rfl
   simp only[*]at ad ag
   go_wp2_with refine mz M fun M=>?_
   refine mr M ⟨?_,M.bel⟩
   first
   |(rw[ab.out (.inl (by simpa using h7))];rfl)
   |(rw[ab.out (.inr (by simpa using h8))];rfl)
   |(rw[ac.out (by rintro(h|h) <;> simp[h]at h7 h8)];rfl)
def jB(P:Program)(md:Region.Mode)(ops:Array Oper)(Q:Exit->Act->World->Prop)(S Z:World->Prop)(m:Nat):Nat->Array Bool->Act->World->Prop
 |0,listed,a,w=>Region.ready md ops listed=[]/\Q .normal a w
 |fuel+1,listed,a,w=>(Region.ready md ops listed=[]->Q .normal a w)/\
  ∀i∈Region.ready md ops listed,wpOp P ops Q i (fun a' w'=>(((listed.setIfInBounds i true).getD m true=false->S w')/\Z w')/\jB P md ops Q S Z m fuel (listed.setIfInBounds i true) a' w') a w
def sD(md:Region.Mode)(ops:Array Oper)(m i:Nat):Bool:=match ops[m]? with
 |some o=>o.after.any fun e=>Region.binds md e&&e.on==i
 |none=>false
section
variable {P:Program} {md:Region.Mode} {ops:Array Oper} {Q:Exit->Act->World->Prop} {S Z:World->Prop} {m:Nat}
def wT:∀(fuel:Nat)(listed:Array Bool) (a:Act) (w:World),jB P md ops Q S Z m fuel listed a w->wpAny P md ops Q fuel listed a w
 |0,_,_,_,h=>h
 |fuel+1,_,_,_,h=>⟨h.1,fun i hi=>wpOp_mono (fun a' w' h'=>wT fuel _ a' w' h'.2) (h.2 i hi)⟩
def wU{l:Array Bool}{m i:Nat}(h:l.getD m true=true):(l.setIfInBounds i true).getD m true=true:=by
 by_cases e:i=m
 ·subst e;rcases Nh i l.size with h'|h'
  ·simp[h']
  ·simp[h']
 ·rw[getD_set_ne true e];exact h
def wV:∀(fuel:Nat)(listed:Array Bool) (a:Act) (w:World),listed.getD m true=true->wpAnyH P md ops Q Z fuel listed a w->jB P md ops Q S Z m fuel listed a w
 |0,_,_,_,_,h=>h
 |fuel+1,listed,_,_,hm,h=>⟨h.1,fun i hi=>wpOp_mono (fun a' w' h'=>⟨⟨fun e=>(by rw[wU hm]at e;cases e),h'.1⟩,wV fuel _ a' w' (wU hm) h'.2⟩) (h.2 i hi)⟩
def EK{i:Nat}{oi}{v}(hi:ops[i]? = some oi)(ar:∀(j:Nat)(o) cs b,ops[j]? = some o->o.op≠ .select cs b)(hQ:∀c a w,Q (.panic c) (a.put oi.dst v) w->Q (.panic c) a w)(av:sD md ops m i=true) :∀(fuel:Nat)(listed:Array Bool) (a:Act) (w:World),(∀j oj,ops[j]? = some oj->j≠i->listed.getD j true=false->(∀e∈oj.after,Region.binds md e=true->e.on≠i)->oi.apart ops oj=true)->i∈Region.ready md ops listed->listed.getD m true=false->YieldsIf P ops S oi v a->S w->Z w->jB P md ops Q S Z m fuel (listed.setIfInBounds i true) (a.put oi.dst v) w->jB P md ops Q S Z m (fuel+1) listed a w:=by
 intro fuel;induction fuel with
 |zero=>
  intro listed a w _ hr _ hy hS hZ H
  refine⟨fun h=>(by rw[h]at hr;cases hr),fun j hj=>?_⟩
  by_cases ac:j=i
  ·subst ac;exact hy.wpOp hi hS ⟨⟨fun _=>hS,hZ⟩,H⟩
  ·have:=ready_mono hj ac
   rw[H.1]at this
   cases this
 |succ fuel ih=>
  intro listed a w ab hr bc hy hS hZ H
  refine⟨fun h=>(by rw[h]at hr;cases hr),fun j hj=>?_⟩
  by_cases ac:j=i
  ·subst ac;exact hy.wpOp hi hS ⟨⟨fun _=>hS,hZ⟩,H⟩
  ·have h1:=H.2 j (ready_mono hj ac)
   obtain⟨al,oj,ax,be⟩:=mem_ready.1 hj
   have an:∀k ok,k∈Region.ready md ops listed->ops[k]? = some ok->∀e∈ok.after,Region.binds md e=true->e.on≠i:=fun k ok hk aA e he hb bg=>by
    obtain⟨_,bk,ao,ag⟩:=mem_ready.1 hk;rw[aA]at ao
    cases ao;have h1:=ag e he hb;have h0:=(mem_ready.1 hr).1;rw[bg]at h1;rcases Nh i listed.size with h'|h'
    ·simp[h']at h0 h1;rw[h0]at h1;cases h1
    ·simp[Array.getElem?_eq_none h']at h1
   have ba:∀k,k∈Region.ready md ops listed->k≠m:=fun k hk e=>by
    subst e;unfold sD at av;split at av
    ·rename_i ok aA;simp only[Array.any_eq_true,Ob,beq_iff_eq]at av;obtain⟨x,hx,hb,he⟩:=av;exact an k ok hk aA _ (Array.getElem_mem hx) hb he
    ·cases av
   have h2:=wpOp_putIf ax (ab j oj ax ac al (an j oj hj ax)) (fun cs b=>ar i oi cs b hi) (fun cs b=>ar j oj cs b ax) hQ hy h1
   have ad:∀k ok,ops[k]? = some ok->k≠i->(listed.setIfInBounds j true).getD k true=false->
    (∀e∈ok.after,Region.binds md e=true->e.on≠i)->oi.apart ops ok=true:=fun k ok hk bh bd bi=>by
    refine ab k ok hk bh ?_ bi
    by_cases bb:j=k
    ·subst bb;exact al
    ·rw[getD_set_ne true bb]at bd;exact bd
   have e1:(listed.setIfInBounds j true).getD m true=false:=by rw[getD_set_ne true (ba j hj)];exact bc
   have e2:((listed.setIfInBounds i true).setIfInBounds j true).getD m true=false:=by rw[getD_set_ne true (ba j hj),getD_set_ne true (ba i hr)];exact bc
   refine wpOp_mono (fun a' w' h3=>⟨⟨fun _=>h3.2.1.1 e2,h3.2.1.2⟩,ih (listed.setIfInBounds j true) a' w' ad (ready_mono hr (Ne.symm ac)) e1 h3.1 (h3.2.1.1 e2) h3.2.1.2 ?_⟩) h2
   rw[Array.setIfInBounds_comm _ _ ac]
   exact h3.2.2
def EL{i:Nat}{oi}{v}(hi:ops[i]? = some oi)(al:∀(j:Nat)(o) cs b,ops[j]? = some o->o.op≠ .select cs b)(hQ:∀c a w,Q (.panic c) (a.put oi.dst v) w->Q (.panic c) a w)(ao:i≠m) :∀(fuel:Nat)(listed:Array Bool) (a:Act) (w:World),(∀j oj,ops[j]? = some oj->j≠i->listed.getD j true=false->(∀e∈oj.after,Region.binds md e=true->e.on≠i)->oi.apart ops oj=true)->i∈Region.ready md ops listed->YieldsIf P ops Z oi v a->(listed.getD m true=false->S w)->Z w->jB P md ops Q S Z m fuel (listed.setIfInBounds i true) (a.put oi.dst v) w->jB P md ops Q S Z m (fuel+1) listed a w:=by
 intro fuel;induction fuel with
 |zero=>
  intro listed a w _ hr hy hS hZ H
  refine⟨fun h=>(by rw[h]at hr;cases hr),fun j hj=>?_⟩
  by_cases ab:j=i
  ·subst ab;exact hy.wpOp hi hZ ⟨⟨fun e=>hS (by rwa[getD_set_ne true ao]at e),hZ⟩,H⟩
  ·have:=ready_mono hj ab
   rw[H.1]at this
   cases this
 |succ fuel ih=>
  intro listed a w ac hr hy hS hZ H
  refine⟨fun h=>(by rw[h]at hr;cases hr),fun j hj=>?_⟩
  by_cases ab:j=i
  ·subst ab;exact hy.wpOp hi hZ ⟨⟨fun e=>hS (by rwa[getD_set_ne true ao]at e),hZ⟩,H⟩
  ·have h1:=H.2 j (ready_mono hj ab)
   obtain⟨ag,oj,av,an⟩:=mem_ready.1 hj
   have ar:∀e∈oj.after,Region.binds md e=true->e.on≠i:=fun e he hb ba=>by
    have h1:=an e he hb;have h0:=(mem_ready.1 hr).1;rw[ba]at h1;rcases Nh i listed.size with h'|h'
    ·simp[h']at h0 h1;rw[h0]at h1;cases h1
    ·simp[Array.getElem?_eq_none h']at h1
   have h2:=wpOp_putIf av (ac j oj av ab ag ar) (fun cs b=>al i oi cs b hi) (fun cs b=>al j oj cs b av) hQ hy h1
   have ad:∀k ok,ops[k]? = some ok->k≠i->(listed.setIfInBounds j true).getD k true=false->
    (∀e∈ok.after,Region.binds md e=true->e.on≠i)->oi.apart ops ok=true:=fun k ok hk bb aA bc=>by
    refine ac k ok hk bb ?_ bc
    by_cases ax:j=k
    ·subst ax;exact ag
    ·rw[getD_set_ne true ax]at aA;exact aA
   have e1:(listed.setIfInBounds j true).getD m true=((listed.setIfInBounds i true).setIfInBounds j true).getD m true:=by
    rw[<-Array.setIfInBounds_comm _ _ ab,getD_set_ne true ao]
   refine wpOp_mono (fun a' w' h3=>⟨⟨fun e=>h3.2.1.1 (by rw[<-e1];exact e),h3.2.1.2⟩,ih (listed.setIfInBounds j true) a' w' ad (ready_mono hr (Ne.symm ab)) h3.1 (fun e=>h3.2.1.1 (by rw[<-e1];exact e)) h3.2.1.2 ?_⟩) h2
   rw[Array.setIfInBounds_comm _ _ ab]
   exact h3.2.2
end
def bq(P:Program)(ops:Array Oper)(Q:Exit->Act->World->Prop)(S Z:World->Prop)(m:Nat):List Nat->Act->World->Prop
 |[],_,_=>False
 |i::is,a,w=>if Nat.blt i 500=true then ∃o v,ops[i]? = some o/\YieldsIf P ops S o v a/\bq P ops Q S Z m is (a.put o.dst v) w
  else if Nat.blt i 1000=true then ∃o v,ops[i-500]? = some o/\YieldsIf P ops Z o v a/\bq P ops Q S Z m is (a.put o.dst v) w
  else if Nat.beq (i-1000) m=true then wpOp P ops Q (i-1000) (fun a' w'=>Z w'/\aE P ops Q Z is a' w') a w
  else wpOp P ops Q (i-1000) (fun a' w'=>(S w'/\Z w')/\bq P ops Q S Z m is a' w') a w
def lr(md:Region.Mode)(ops:Array Oper)(m:Nat):List Nat->Array Bool->Bool
 |[],_=>false
 |i::is,listed=>if Nat.blt i 500=true then(!listed.getD m true&&sD md ops m i)&&(Region.free md ops listed i&&(Region.ready md ops listed).contains i&&lr md ops m is (listed.setIfInBounds i true))
  else if Nat.blt i 1000=true then !Nat.beq (i-500) m&&(Region.free md ops listed (i-500)&&(Region.ready md ops listed).contains (i-500)&&lr md ops m is (listed.setIfInBounds (i-500) true))
  else(Region.ready md ops listed==[i-1000])&&(if Nat.beq (i-1000) m=true then Nat.blt m listed.size&&ju md ops is (listed.setIfInBounds (i-1000) true)else lr md ops m is (listed.setIfInBounds (i-1000) true))
def sE(l:List Oper)(ab:List Nat)(m:Nat):Bool:=Region.noSelect l.toArray&&(Nat.ble ab.length l.toArray.size&&lr .any l.toArray m ab (Array.replicate l.toArray.size false))
def EM{P}{md:Region.Mode}{ops}{Q}{S Z:World->Prop}{m:Nat}(hs:Region.noSelect ops=true)(hQ:∀(i:Nat)(o),ops[i]? = some o->∀c (a:Act) (v) (w),Q (.panic c) (a.put o.dst v) w->Q (.panic c) a w) :∀(ad:List Nat)(fuel:Nat) (listed:Array Bool) (a:Act) (w:World),ad.length<=fuel->lr md ops m ad listed=true->S w->Z w->bq P ops Q S Z m ad a w->jB P md ops Q S Z m fuel listed a w:=by
 intro ad;induction ad with
 |nil=>intro fuel listed a w _ _ _ _ h;exact h.elim
 |cons i is ih=>
  intro fuel listed a w hf ab hS hZ h
  obtain⟨f,rfl⟩:∃f,fuel=f+1:=⟨fuel-1,by simp only[M6]at hf;omega⟩
  simp only[M6]at hf
  unfold bq at h
  unfold lr at ab
  split at h
  ·rename_i hi
   rw[if_pos hi]at ab
   simp only[Ob,Bool.not_eq_true']at ab
   obtain⟨o,v,ho,hy,h⟩:=h
   exact EK ho (Region.noSelect_spec hs) (fun c a w h=>hQ _ _ ho c a _ w h) ab.1.2 f listed a w (Region.free_spec ho ab.2.1.1) (by simpa using ab.2.1.2) ab.1.1 hy hS hZ (ih f _ _ w (by omega) ab.2.2 hS hZ h)
  split at h
  ·rename_i ag hi
   rw[if_neg ag,if_pos hi]at ab
   simp only[Ob,Bool.not_eq_true']at ab
   obtain⟨o,v,ho,hy,h⟩:=h
   exact EL ho (Region.noSelect_spec hs) (fun c a w h=>hQ _ _ ho c a _ w h) (fun e=>by have:=ab.1;rw[e]at this;simp at this) f listed a w (Region.free_spec ho ab.2.1.1) (by simpa using ab.2.1.2) hy (fun _=>hS) hZ (ih f _ _ w (by omega) ab.2.2 hS hZ h)
  ·rename_i ag hi
   rw[if_neg ag,if_neg hi,Ob,beq_iff_eq]at ab
   refine⟨fun h0=>absurd (ab.1▸h0) (List.cons_ne_nil _ _),fun j hj=>?_⟩
   have al:j=i-1000:=by rw[ab.1]at hj;exact Oi.1 hj
   rw[al]
   split at h
   ·rename_i hm
    have ac:=ab.2
    rw[if_pos hm]at ac
    simp only[Ob,Nat.blt_eq]at ac
    have em:i-1000=m:=Nat.eq_of_beq_eq_true hm
    have hl:(listed.setIfInBounds (i-1000) true).getD m true=true:=by rw[em];simp[ac.1]
    exact wpOp_mono (fun a' w' h'=>⟨⟨fun e=>(by rw[hl]at e;cases e),h'.1⟩,wV f _ a' w' hl (pn hs hQ is f _ a' w' (by omega) ac.2 h'.1 h'.2)⟩) h
   ·rename_i hm
    have ac:=ab.2
    rw[if_neg hm]at ac
    exact wpOp_mono (fun a' w' h'=>⟨⟨fun _=>h'.1.1,h'.1.2⟩,ih f _ a' w' (by omega) ac h'.1.1 h'.1.2 h'.2⟩) h
section
variable {P:Program} {l rest:List Oper} {Q:Exit->Act->World->Prop} {S Z:World->Prop} {m i:Nat} {is:List Nat} {o:Oper} {v:Value} {a:Act} {w:World}
def jC(h0:Nat.blt i 500=false)(hi:Nat.blt i 1000=true)(hl:l.drop (i-500)=o::rest)(hw:Region.wanted o (yielded l.toArray a.tmps)=true)(hy:∀w,Z w->(execOp a.eval o).run P w=.ok (.value v) w)(h:bq P l.toArray Q S Z m is (a.put o.dst v) w):bq P l.toArray Q S Z m (i::is) a w:=by
 unfold bq;rw[if_neg (by simp[h0]),if_pos hi];exact⟨o,v,eM hl,Or.inl ⟨hw,hy⟩,h⟩
def jD(hi:Nat.blt i 500=true)(hl:l.drop i=o::rest)(hw:Region.wanted o (yielded l.toArray a.tmps)=true)(hy:∀w,S w->(execOp a.eval o).run P w=.ok (.value v) w)(h:bq P l.toArray Q S Z m is (a.put o.dst v) w):bq P l.toArray Q S Z m (i::is) a w:=by
 unfold bq;rw[if_pos hi];exact⟨o,v,eM hl,Or.inl ⟨hw,hy⟩,h⟩
def fZ(h0:Nat.blt i 500=false)(hi:Nat.blt i 1000=false)(hn:Nat.beq (i-1000) m=false)(hl:l.drop (i-1000)=o::rest)(hw:Region.wanted o (yielded l.toArray a.tmps)=true)(h:∀K':Act->World->Prop,Shut (∀a w,(S w/\Z w)->(S w/\Z w->bq P l.toArray Q S Z m is a w)->K' a w)->Oper.wp P o a w K' Q):bq P l.toArray Q S Z m (i::is) a w:=by
 unfold bq;rw[if_neg (by simp[h0]),if_neg (by simp[hi]),if_neg (by simp[hn])];refine wpOp_step (eM hl) (fun K' hK=>?_);rw[if_pos hw];exact h K' (fun a w hS hW=>hK a w ⟨hS,hW hS⟩)
def pE(h0:Nat.blt i 500=false)(hi:Nat.blt i 1000=false)(hn:Nat.beq (i-1000) m=true)(hl:l.drop (i-1000)=o::rest)(hw:Region.wanted o (yielded l.toArray a.tmps)=true)(h:∀K':Act->World->Prop,Shut (∀a w,Z w->(Z w->aE P l.toArray Q Z is a w)->K' a w)->Oper.wp P o a w K' Q):bq P l.toArray Q S Z m (i::is) a w:=by
 unfold bq;rw[if_neg (by simp[h0]),if_neg (by simp[hi]),if_pos (by simp[hn])];refine wpOp_step (eM hl) (fun K' hK=>?_);rw[if_pos hw];exact h K' (fun a w hZ hW=>hK a w ⟨hZ,hW hZ⟩)
def wW(T)(n:Nat)(hT:bW P T n=true)(h0:Nat.blt i 500=false)(hi:Nat.blt i 1000=true)(hl:l.drop (i-500)=o::rest)(hw:Region.wanted o (yielded l.toArray a.tmps)=true)(x)(ho:o.op=.load T x)(b off:Nat)(hx:a.eval x=.pointer (some ⟨b,off,none⟩))(cs:List Value)(hn:cs.length=n)(hS:∀w,Z w->w.rangeAt b off cs)(h:bq P l.toArray Q S Z m is (a.put o.dst (.agg cs.toArray)) w):bq P l.toArray Q S Z m (i::is) a w:=by
 obtain⟨d,hu,hd⟩:=jw hT;refine jC (v:= .agg cs.toArray) h0 hi hl hw (fun w ab=>?_) h;unfold execOp;simp only[ho,hx,NM,run_loadAt_mid w b off T cs d (hS w ab) hu hd (by rw[eQ hT,hn]),NO,NN]
def pF{id:Nat}(m:Nat)(ac:List Nat)(hm:P.follows .mixedOrders=true)(ab:sE l ac m=true)(hS:S w.drew)(hZ:Z w.drew)(h:S w.drew->Z w.drew->bq P l.toArray Q S Z m ac a w.drew)(hQ:∀(i:Nat)(o),l.toArray[i]? = some o->∀c (a:Act) (v) (w),Q (.panic c) (a.put o.dst v) w->Q (.panic c) a w:=by(intro i o _ c a v w;generalize o.dst=d;cases d <;> exact fun h=>h)):(Code.region id l.toArray true).wp P Q a w:=by
 simp only[sE,Ob,Nat.ble_eq]at ab;exact wp_region_any hm (wT _ _ _ _ (EM ab.1 hQ ac _ _ a _ ab.2.1 ab.2.2 hS hZ (h hS hZ)))
end
section
variable {P:Program} {As Bs Cz:List Asn} {w:World} {Q:Exit->Act->World->Prop} {oper:Oper} {l rest:List Oper} {a a':Act} {x y:Operand} {t e T:TypeId} {v:Value} {k i j g c m:Nat} {is:List Nat} {L:List (List Value)} {xc:List Value} {ι κ:Type} {gS:ι->List Asn} {gZ:κ->List Asn} {fn:FuncId}
def nq(h:bq P l.toArray Q (fun W=>∃z,Sep (gS z) W) (fun W=>∃z,Sep (gZ z) W) m is a' w)(hi:Nat.blt i 500=true:=by rfl)(hl:l.drop i=oper::rest:=by rfl)(hk:su oper.op=true:=by rfl)(hq:∀z,Qt P (gS z) oper.op a v:=by intro z;first
  |exact .load rfl rfl (by infer_instance) cj
  |exact .len rfl rfl (by infer_instance) (by infer_instance) (by kernel_rfl)
  |exact .elem rfl rfl (by assumption) (by infer_instance) cj
  |exact .part rfl rfl (by assumption) (by infer_instance) cj
  |exact .rel rfl rfl (by assumption) (by infer_instance) cj
  |exact .rpart rfl rfl (by assumption) (by infer_instance) cj)
 (hw:Region.wanted oper (yielded l.toArray a.tmps)=true:=by rfl) (e:a.put oper.dst v=a':=by(try simp only[PT]);try rfl):bq P l.toArray Q (fun W=>∃z,Sep (gS z) W) (fun W=>∃z,Sep (gZ z) W) m (i::is) a w:=by
 subst e
 exact jD hi hl hw (fun w ⟨z,M⟩=>(hq z).run M) h
def nQ(h:bq P l.toArray Q (fun W=>∃z,Sep (gS z) W) (fun W=>∃z,Sep (gZ z) W) m is a' w)(hi:Nat.blt i 500=true:=by rfl)(hl:l.drop i=oper::rest:=by rfl)(hy:∀w,(execOp a.eval oper).run P w=.ok (.value v) w:=by(intro w;go_simp;try(with_reducible rfl)))(hw:Region.wanted oper (yielded l.toArray a.tmps)=true:=by rfl)(e:a.put oper.dst v=a':=by(try simp only[PT]);try rfl):bq P l.toArray Q (fun W=>∃z,Sep (gS z) W) (fun W=>∃z,Sep (gZ z) W) m (i::is) a w:=by
 subst e;exact jD hi hl hw (fun w _=>hy w) h
def nz(h:bq P l.toArray Q (fun W=>∃z,Sep (gS z) W) (fun W=>∃z,Sep (gZ z) W) m is a' w)(h0:Nat.blt i 500=false:=by rfl)(hi:Nat.blt i 1000=true:=by rfl)(hl:l.drop (i-500)=oper::rest:=by rfl)(hy:∀w,(execOp a.eval oper).run P w=.ok (.value v) w:=by(intro w;go_simp;try(with_reducible rfl)))(hw:Region.wanted oper (yielded l.toArray a.tmps)=true:=by rfl)(e:a.put oper.dst v=a':=by(try simp only[PT]);try rfl):bq P l.toArray Q (fun W=>∃z,Sep (gS z) W) (fun W=>∃z,Sep (gZ z) W) m (i::is) a w:=by
 subst e;exact jC h0 hi hl hw (fun w _=>hy w) h
def nc(M:Sep As w)(h:∀W,Sep Cz W->bq P l.toArray Q (fun W=>∃z,Sep (gS z) W) (fun W=>∃z,Sep (gZ z) W) m is a' W)(h0:Nat.blt i 500=false:=by rfl)(hi:Nat.blt i 1000=false:=by rfl)(hn:Nat.beq (i-1000) m=false:=by rfl)(hl:l.drop (i-1000)=oper::rest:=by rfl)(hs:St P As oper.op a (fun _ _=>Hid True) (fun _ _=>Cz) (fun _ _=>v):=by first
  |exact .call rfl rfl rfl (by(try simp only[MZ,M9,Oz]);rfl) (by infer_instance) (by(try simp only[PS]);try rfl) (by intro w;simp)
  |exact .store rfl rfl rfl (by infer_instance) (by first|exact .cell (by first|rfl|(simp;omega)) (by rfl) (by(try simp only[PT]);rfl) (by rfl)|exact .row rfl rfl (by first|rfl|exact Fct.out) (by rfl)|exact .part rfl (by rfl) (by rfl) (by(try simp only[PT,Ol,N3,List.drop_succ_cons,List.drop_zero,MZ,M9]);rfl) (by rfl)) (by(try simp only[PS]);try rfl)
  |exact .qt (.load rfl rfl (by infer_instance) cj))
 (ab:∃z n,gS z=Cz.drop n:=by first|exact⟨true,0,rfl⟩|exact⟨true,1,rfl⟩|exact⟨true,2,rfl⟩|exact⟨_,0,rfl⟩|exact⟨(_,_),0,rfl⟩|exact⟨(_,_,_),0,rfl⟩|exact⟨_,1,rfl⟩|exact⟨(_,_),1,rfl⟩|exact⟨(_,_,_),1,rfl⟩|exact⟨_,2,rfl⟩|exact⟨(_,_),2,rfl⟩|exact⟨(_,_,_),2,rfl⟩) (hz:∃z n,gZ z=Cz.drop n:=by first|exact⟨true,0,rfl⟩|exact⟨true,1,rfl⟩|exact⟨true,2,rfl⟩|exact⟨_,0,rfl⟩|exact⟨(_,_),0,rfl⟩|exact⟨(_,_,_),0,rfl⟩|exact⟨_,1,rfl⟩|exact⟨(_,_),1,rfl⟩|exact⟨(_,_,_),1,rfl⟩|exact⟨_,2,rfl⟩|exact⟨(_,_),2,rfl⟩|exact⟨(_,_,_),2,rfl⟩) (hw:Region.wanted oper (yielded l.toArray a.tmps)=true:=by rfl) (e:a.put oper.dst v=a':=by(try simp only[PT]);try rfl):bq P l.toArray Q (fun W=>∃z,Sep (gS z) W) (fun W=>∃z,Sep (gZ z) W) m (i::is) a w:=by
 subst e
 refine fZ h0 hi hn hl hw fun K hK=>hs.wp M fun _ _ W _ M'=>?_
 obtain⟨z,n,hz⟩:=hz
 obtain⟨z1,n1,ab⟩:=ab
 exact hK.out _ _ ⟨⟨z1,by rw[ab];exact M'.dr n1⟩,⟨z,by rw[hz];exact M'.dr n⟩⟩ fun _=>h W M'
def ne(M:Sep As w)(h:∀W,Sep Cz W->aE P l.toArray Q (fun W=>∃z,Sep (gZ z) W) is a' W)(h0:Nat.blt i 500=false:=by rfl)(hi:Nat.blt i 1000=false:=by rfl)(hn:Nat.beq (i-1000) m=true:=by rfl)(hl:l.drop (i-1000)=oper::rest:=by rfl)(hs:St P As oper.op a (fun _ _=>Hid True) (fun _ _=>Cz) (fun _ _=>v):=by first
  |exact .call rfl rfl rfl (by(try simp only[MZ,M9,Oz]);rfl) (by infer_instance) (by(try simp only[PS]);try rfl) (by intro w;simp)
  |exact .store rfl rfl rfl (by infer_instance) (by first|exact .cell (by first|rfl|(simp;omega)) (by rfl) (by(try simp only[PT]);rfl) (by rfl)|exact .row rfl rfl (by first|rfl|exact Fct.out) (by rfl)|exact .part rfl (by rfl) (by rfl) (by(try simp only[PT,Ol,N3,List.drop_succ_cons,List.drop_zero,MZ,M9]);rfl) (by rfl)) (by(try simp only[PS]);try rfl)
  |exact .qt (.load rfl rfl (by infer_instance) cj))
 (hz:∃z n,gZ z=Cz.drop n:=by first|exact⟨true,0,rfl⟩|exact⟨true,1,rfl⟩|exact⟨true,2,rfl⟩|exact⟨_,0,rfl⟩|exact⟨(_,_),0,rfl⟩|exact⟨(_,_,_),0,rfl⟩|exact⟨_,1,rfl⟩|exact⟨(_,_),1,rfl⟩|exact⟨(_,_,_),1,rfl⟩|exact⟨_,2,rfl⟩|exact⟨(_,_),2,rfl⟩|exact⟨(_,_,_),2,rfl⟩) (hw:Region.wanted oper (yielded l.toArray a.tmps)=true:=by rfl) (e:a.put oper.dst v=a':=by(try simp only[PT]);try rfl):bq P l.toArray Q (fun W=>∃z,Sep (gS z) W) (fun W=>∃z,Sep (gZ z) W) m (i::is) a w:=by
 subst e
 refine pE h0 hi hn hl hw fun K hK=>hs.wp M fun _ _ W _ M'=>?_
 obtain⟨z,n,hz⟩:=hz
 exact hK.out _ _ ⟨z,by rw[hz];exact M'.dr n⟩ fun _=>h W M'
def nx{y}{xs:List Operand}{vs us cs:List Value}{ts:Array TypeId}{p:List PanicEntry}(M:Sep As w)(h:∀W,Sep As W->Q (.panic p) a W)(h0:Nat.blt i 500=false:=by rfl)(hi:Nat.blt i 1000=false:=by rfl)(hn:Nat.beq (i-1000) m=false:=by rfl)(hl:l.drop (i-1000)=oper::rest:=by rfl)(ho:oper.op=.call {callee:= .value y,args:=xs.toArray,argTypes:=ts}:=by rfl)(hf:evo a y=some (.func (.func fn) #[] cs.toArray):=by rfl)(hx:evl a xs=some vs:=by rfl)(hv:vs++cs=us:=by(try simp only[MZ,M9,Oz]);rfl)(hC:fC P fn us.toArray As p:=by infer_instance)(hc:∀w,(callFunc fn us.toArray).run P w=.ok (.enter fn us.toArray) w:=by intro w;simp)(hw:Region.wanted oper (yielded l.toArray a.tmps)=true:=by rfl):bq P l.toArray Q (fun W=>∃z,Sep (gS z) W) (fun W=>∃z,Sep (gZ z) W) m (i::is) a w:=by
 refine fZ h0 hi hn hl hw fun K hK=>?_;have hm:=kd hx;have e1:(execOp a.eval oper).run P w=.ok (.enter fn us.toArray) w:=by
  subst hv;unfold execOp;simp[ho,resolve,hm,bU hf,Deferred.ofValue,invoke,hc,NM,NO]
 unfold Oper.wp;rw[e1,Oper.upon_enter];exact(hC.out w M).mono fun _ W ⟨e,M'⟩=>by subst e;exact h W M'
def np{ri:Nat}{a':Option Addr->Nat->Nat->Act}{Bs:Option Addr->Nat->Nat->List Asn}(M:Sep As w)(h:∀f u d W,Sep (Bs f u d) W->bq P l.toArray Q (fun W=>∃z,Sep (gS z) W) (fun W=>∃z,Sep (gZ z) W) m is (a' f u d) W)(h0:Nat.blt i 500=false:=by rfl)(hi:Nat.blt i 1000=false:=by rfl)(hn:Nat.beq (i-1000) m=false:=by rfl)(hl:l.drop (i-1000)=oper::rest:=by rfl)(ho:oper.op=.call {callee:= .builtin .append,args:=#[x,y],argTypes:=#[t,t]}:=by rfl)(hT:P.underlying t=some (.slice e):=by rfl)(hx:evo a x=some v:=by rfl)(hR:cH As v e k L ri:=by infer_instance)(hy:a.eval y=.slice g 1 c:=by rfl)(hB:Has As g xc T j:=by infer_instance)(ac:xc.length=k:=by rfl)(h1:(xc.all fun u=>u.oneCell')=true:=by first|rfl|exact Fct.out)(hL:L.length<=16777216:=by first|assumption|(simp;omega))(hA:ia P t e k=true:=by kernel_rfl)(hw:Region.wanted oper (yielded l.toArray a.tmps)=true:=by rfl)(hu:∀f m d,As.set ri (.row (.slice f m d) e k (L++[xc]))=Bs f m d:=by intro _ _ _;(try simp only[PS]);try rfl)(ab:∀f m d,∃z n,gS z=(Bs f m d).drop n:=by intro _ _ _;first|exact⟨true,0,rfl⟩|exact⟨true,1,rfl⟩|exact⟨true,2,rfl⟩|exact⟨_,0,rfl⟩|exact⟨(_,_),0,rfl⟩|exact⟨(_,_,_),0,rfl⟩|exact⟨_,1,rfl⟩|exact⟨(_,_),1,rfl⟩|exact⟨(_,_,_),1,rfl⟩|exact⟨_,2,rfl⟩|exact⟨(_,_),2,rfl⟩|exact⟨(_,_,_),2,rfl⟩)(hz:∀f m d,∃z n,gZ z=(Bs f m d).drop n:=by intro _ _ _;first|exact⟨true,0,rfl⟩|exact⟨true,1,rfl⟩|exact⟨true,2,rfl⟩|exact⟨_,0,rfl⟩|exact⟨(_,_),0,rfl⟩|exact⟨(_,_,_),0,rfl⟩|exact⟨_,1,rfl⟩|exact⟨(_,_),1,rfl⟩|exact⟨(_,_,_),1,rfl⟩|exact⟨_,2,rfl⟩|exact⟨(_,_),2,rfl⟩|exact⟨(_,_,_),2,rfl⟩)(e':∀f m d,a.put oper.dst (.slice f m d)=a' f m d:=by intro _ _ _;(try simp only[PT]);try rfl):bq P l.toArray Q (fun W=>∃z,Sep (gS z) W) (fun W=>∃z,Sep (gZ z) W) m (i::is) a w:=by
 have _:=hT;refine fZ h0 hi hn hl hw fun K hK=>ap1 M ho hx hR hy hB ac h1 hL hA fun f m' d W M'=>?_;obtain⟨z,n,hz⟩:=hz f m' d;obtain⟨z1,n1,ab⟩:=ab f m' d;rw[hu]at M';rw[e'];exact hK.out _ _ ⟨⟨z1,by rw[ab];exact M'.dr n1⟩,⟨z,by rw[hz];exact M'.dr n⟩⟩ fun _=>h f m' d W M'
def nv{a':Nat->Act}{n:Nat}{ps:List (Nat×Operand)}{vs:List (Nat×Value)}{z}{ie:TypeInfo}{zv:Value}(M:Sep As w)(h:∀b W,Sep (.box b z e::As) W->bq P l.toArray Q (fun W=>∃z,Sep (gS z) W) (fun W=>∃z,Sep (gZ z) W) m is (a' b) W)(h0:Nat.blt i 500=false:=by rfl)(hi:Nat.blt i 1000=false:=by rfl)(hn:Nat.beq (i-1000) m=false:=by rfl)(hl:l.drop (i-1000)=oper::rest:=by rfl)(ho:oper.op=.buildSlice t n ps.toArray:=by rfl)(hp:evp a ps=some vs:=by rfl)(hz:(vs.map fun p=>p.2.cells.toList).flatten=z:=by(try simp only[NP,List.map_nil,List.flatten_cons,List.flatten_nil,Oz,Value.cells,List.toList_toArray,MZ,M9]);rfl)(hu:P.underlying t=some (.slice e):=by rfl)(hI:P.info? e=some ie:=by rfl)(ad:ie.zero=some zv:=by rfl)(hs:Nat.ble (n*ie.size) 16777216=true:=by kernel_rfl)(ac:Nat.blt 0 (n*ie.size)=true:=by kernel_rfl)(hf:Instr.fill (fun i=>some (i*ie.size,ie.size)) ((Array.range (n*ie.size)).map (zv.cells[· % zv.cells.size]!)) vs=some z.toArray:=by kernel_rfl)(ab:∃z n,gS z=As.drop n:=by first|exact⟨true,0,rfl⟩|exact⟨true,1,rfl⟩|exact⟨true,2,rfl⟩|exact⟨_,0,rfl⟩|exact⟨(_,_),0,rfl⟩|exact⟨(_,_,_),0,rfl⟩|exact⟨_,1,rfl⟩|exact⟨(_,_),1,rfl⟩|exact⟨(_,_,_),1,rfl⟩|exact⟨_,2,rfl⟩|exact⟨(_,_),2,rfl⟩|exact⟨(_,_,_),2,rfl⟩)(hg:∃z n,gZ z=As.drop n:=by first|exact⟨true,0,rfl⟩|exact⟨true,1,rfl⟩|exact⟨true,2,rfl⟩|exact⟨_,0,rfl⟩|exact⟨(_,_),0,rfl⟩|exact⟨(_,_,_),0,rfl⟩|exact⟨_,1,rfl⟩|exact⟨(_,_),1,rfl⟩|exact⟨(_,_,_),1,rfl⟩|exact⟨_,2,rfl⟩|exact⟨(_,_),2,rfl⟩|exact⟨(_,_,_),2,rfl⟩)(hw:Region.wanted oper (yielded l.toArray a.tmps)=true:=by rfl)(e':∀b,a.put oper.dst (.slice (some ⟨b,0,none⟩) n n)=a' b:=by intro b;(try simp only[PT]);try rfl):bq P l.toArray Q (fun W=>∃z,Sep (gS z) W) (fun W=>∃z,Sep (gZ z) W) m (i::is) a w:=by
 have _:=hz;rw[Nat.ble_eq]at hs;rw[Nat.blt_eq]at ac;refine fZ h0 hi hn hl hw fun K hK=>?_;have hm:=mZ hp;refine wp_buildSlice t e n ps.toArray ho z.toArray ie zv hu hI ad (by omega) (by omega) (by
  have e1:(Array.map (fun(x:Nat×Operand)=>match x with|(i,x)=>(i,a.eval x)) ps.toArray).toList=vs:=by rw[List.map_toArray];exact hm
  rw[e1];exact hf) ?_
 rw[e'];obtain⟨z',n',hz'⟩:=hg;obtain⟨z1,n1,ab⟩:=ab;have M':=M.alloc z e;exact hK.out _ _ ⟨⟨z1,by rw[ab];exact(M'.dr 1).dr n1⟩,⟨z',by rw[hz'];exact(M'.dr 1).dr n'⟩⟩ fun _=>h _ _ M'
def mMR{id:Nat}{gS:Value×List (List Value)->List Asn}{gZ:List Value×Value×List (List Value)->List Asn}(M:Sep As w)(p q m:Nat)(ab:List Nat)(k:∀W,Sep As W->bq P l.toArray Q (fun W=>∃z,Sep (gS z) W) (fun W=>∃z,Sep (gZ z) W) m ab a W)(eS:∀z,upR As q z.1 z.2=gS z:=by intro z;(try simp only[upR]);try rfl)(e:∀z,upR (upC As p z.1) q z.2.1 z.2.2=gZ z:=by intro z;(try simp only[upC,upR]);try rfl)(hB:∃z,gS z=As:=by exact⟨(_,_),rfl⟩)(hA:∃z,gZ z=As:=by exact⟨(_,_,_),rfl⟩)(hm:P.follows .mixedOrders=true:=by kernel_rfl)(ac:sE l ab m=true:=by kernel_rfl)(hQ:∀(i:Nat)(o),l.toArray[i]? = some o->∀c (a:Act) (v) (w),Q (.panic c) (a.put o.dst v) w->Q (.panic c) a w:=by(intro i o _ c a v w;generalize o.dst=d;cases d <;> exact fun h=>h)):(Code.region id l.toArray true).wp P Q a w:=
 have _:=e
 have _:=eS
 pF (S:=fun W=>∃z,Sep (gS z) W) (Z:=fun W=>∃z,Sep (gZ z) W) m ab hm ac (let ⟨z,hz⟩:=hB;⟨z,by rw[hz];exact M.drew⟩) (let ⟨z,hz⟩:=hA;⟨z,by rw[hz];exact M.drew⟩) (fun _ _=>k _ M.drew) hQ
end
def doL:List Value:=[.nilFunc,.func (.func 61) #[] #[],.func (.func 62) #[] #[],.func (.func 63) #[] #[],.func (.func 64) #[] #[],.func (.func 65) #[] #[],.func (.func 66) #[] #[],.func (.func 67) #[] #[],.func (.func 68) #[] #[]]
@[reducible] def MsA(w:World)(sb:Nat)(cv:Value)(day:Int)(amt:Rt)(s:Mst)(uv wv:Value):List Asn:=
 [.box sb (stC cv day amt s.bat s.next s.fuel s.lead uv wv) 100,.row uv 65 6 (s.uses.map eO),.row wv 69 2 (s.works.map fY),.old w]
@[reducible] def MsB(w:World)(sb eb db:Nat)(cv:Value)(day:Int)(amt:Rt)(s:Mst)(uv wv:Value):List Asn:=
 .box db doL 137:: .box eb [.int .i64 0] 41::MsA w sb cv day amt s uv wv
@[reducible] def Ms(w:World)(sb ib eb db:Nat)(y:In)(cv:Value)(day:Int)(amt:Rt)(s:Mst)(uv wv:Value):List Asn:=
 .box ib (au y) 72::MsB w sb eb db cv day amt s uv wv
def iT(w:World)(sb ib eb db:Nat)(y:In)(cv:Value)(day:Int)(amt:Rt)(o:Out)(e:Ending)(W:World):Prop:=
 ∃s' ab ac,Sep (Ms w sb ib eb db y cv day amt s' ab ac) W/\((o=.go s'/\e=.returned (.tuple #[]))\/∃k,o=.stop k s'/\e=.panicked (j9 k))
instance mustR_con{As:List Asn}{neg:Bool}{n d:ByteArray}:aB prog 115 #[.agg #[.bool neg,.string n,.string d],.int .i64 0] As (.agg #[.bool neg,.string n,.string d]):=⟨fun w M=>by
 go_enter func115,ntmps115;go_wp2;exact bodyPost_ret (v:= .agg #[.bool neg,.string n,.string d]) (by simp[results,results115,go_sem]) rfl ⟨rfl,((NB _ _).alloc (No _) _).alloc (by simp) _⟩⟩
instance mustR_no{As:List Asn}{neg:Bool}{n d:ByteArray}:fC prog 115 #[.agg #[.bool neg,.string n,.string d],.int .i64 2] As (j9 2):=⟨fun w M=>by
 go_enter func115,ntmps115;go_wp2;exact⟨rfl,rfl,M.ext (((NB _ _).alloc (No _) _).alloc (by simp) _)⟩⟩
instance mustI_con{As:List Asn}{x:Int}:aB prog 116 #[.int .i64 x,.int .i64 0] As (.int .i64 x):=⟨fun w M=>by
 go_enter func116,ntmps116;go_wp2;go_ret;exact⟨rfl,NB _ _⟩⟩
instance mustI_no{As:List Asn}{x:Int}:fC prog 116 #[.int .i64 x,.int .i64 2] As (j9 2):=⟨fun w M=>by
 go_enter func116,ntmps116;go_wp2;exact⟨rfl,rfl,M⟩⟩
section
variable {w W:World} {sb ib eb db:Nat} {y:In} {cv:Value} {ch:List Int} {day:Int} {amt:Rt} {s:Mst} {uv wv:Value} {A B:Int} {neg:Bool} {n d:ByteArray}
def EN(M:Sep (Ms w sb ib eb db y cv day amt s uv wv) W)(hA:-2<=A)(hn:s.next<=65536)(hc:ah w cv Int 1 ch af):Calls prog 61 #[.pointer sb,.agg (au ⟨1,A,B,neg,n,d⟩).toArray] W (iT w sb ib eb db y cv day amt (.go {s with next:=if cg ch day ⟨1,A,B,neg,n,d⟩then s.next+1 else s.next})):=by
 have e1:IntKind.i64.wrap ((s.next:Int)+1)=((s.next+1:Nat):Int):=by rw[NC];omega
 unfold Ms MsB MsA stC at M;by_cases h0:0<=A
 case neg=>
  rcases(show A= -1\/A= -2 by omega)with rfl|rfl
  case' inl=>
   have hh:cg ch day ⟨1,-1,B,neg,n,d⟩=decide (B<=day):=rfl
   cases h:decide (B<=day)
  case' inr=>
   have hh:cg ch day ⟨1,-2,B,neg,n,d⟩=decide (day<B):=rfl
   cases h:decide (day<B)
  all_goals
   rw[hh]
   simp only[*]at hh⊢
   clear hh hA hn h0
   go_enter func61,ntmps61
   go_wp2_with refine mz M fun M=>?_
   refine mg M [0,1,2,3,4,5,6,7] fun _ M=>?_
   repeat(first|refine sz M fun M=>?_|refine sj M fun M=>?_|refine sv M fun M=>?_|refine sp M fun M=>?_|refine sQ ?_)
   try refine aj ?_
   all_goals
   go_wp2_with refine mz M fun M=>?_
   refine mr M ⟨_,uv,wv,?_,.inl ⟨rfl,rfl⟩⟩
   first
   |exact M.dr 1
   |(rw[e1]at M;exact M.dr 1)
 obtain⟨k,rfl⟩:=Int.eq_ofNat_of_zero_le h0;have t1:((k:Int)== -1)=false:=by rw[beq_eq_false_iff_ne];omega
 have t2:((k:Int)== -2)=false:=by rw[beq_eq_false_iff_ne];omega
 have hh:cg ch day ⟨1,(k:Int),B,neg,n,d⟩=match ch[k]? with|some c=>c==B|none=>false:=by
  unfold cg;simp only;rw[if_neg (by omega),if_neg (by omega),NI];rfl
 cases hk:ch[k]?
 case' none=>have t3:decide (k<ch.length)=false:=by have:=List.getElem?_eq_none_iff.1 hk;simp;omega
 case' some c=>
  have t3:decide (k<ch.length)=true:=by have:=(NQ.1 hk).1;simp;omega
  cases h:c==B
 all_goals
  rw[hh]
  simp only[*]at hh⊢
  clear hh hA hn h0
  go_enter func61,ntmps61
  go_wp2_with refine mz M fun M=>?_
  refine mg M [0,1,2,3,4,5,6,7,8,9,10,11,12,13,14,15,16,17,18,19,20,21] fun _ M=>?_
  repeat(first|refine sz M fun M=>?_|refine sj M fun M=>?_|refine sv M fun M=>?_|refine sp M fun M=>?_|refine sQ ?_)
  try refine aj ?_
  go_wp2_with refine mz M fun M=>?_
  refine mr M ⟨_,uv,wv,?_,.inl ⟨rfl,rfl⟩⟩
  first
  |exact M.dr 1
  |(rw[e1]at M;exact M.dr 1)
def EO{k:Nat}(M:Sep (Ms w sb ib eb db y cv day amt s uv wv) W)(hn:s.next<=65536)(hk:k<=65536):Calls prog 62 #[.pointer sb,.agg (au ⟨2,(k:Int),B,neg,n,d⟩).toArray] W (iT w sb ib eb db y cv day amt (.go {s with next:=s.next+k})):=by
 have e1:IntKind.i64.wrap ((s.next:Int)+(k:Int))=((s.next+k:Nat):Int):=by rw[NC];omega
 unfold Ms MsB MsA stC at M;go_enter func62,ntmps62;go_wp2_with refine mz M fun M=>?_;refine mg1 M 4 [0,1,2,4,5,1003,6,7,8,1009] fun _ M=>?_;repeat(first|refine sz M fun M=>?_|refine sj M fun M=>?_|refine sv M fun M=>?_|refine sp M fun M=>?_|refine sQ ?_)
 try refine aj ?_
 go_wp2_with refine mz M fun M=>?_;try rw[e1]at M
 refine mr M ⟨_,uv,wv,?_,.inl ⟨rfl,rfl⟩⟩;exact M.dr 1
def EP{x:In}(M:Sep (Ms w sb ib eb db y cv day amt s uv wv) W):Calls prog 67 #[.pointer sb,.agg (au x).toArray] W (iT w sb ib eb db y cv day amt (.stop 0 s)):=by
 go_enter func67,ntmps67;go_wp2_with refine mz M fun M=>?_;exact⟨rfl,s,uv,wv,M.dr 1,.inr ⟨0,rfl,rfl⟩⟩
def EQ{x:In}(M:Sep (Ms w sb ib eb db y cv day amt s uv wv) W):Calls prog 68 #[.pointer sb,.agg (au x).toArray] W (iT w sb ib eb db y cv day amt (.stop 160 s)):=by
 go_enter func68,ntmps68;go_wp2_with refine mz M fun M=>?_;exact⟨rfl,s,uv,wv,M.dr 1,.inr ⟨160,rfl,rfl⟩⟩
variable [hT:Fct (Tab w)] {r:Rt} [hr:Fct r.ok] [hb:Fct s.bat.ok]
attribute [local simp] calcV kg
omit hb in
def ES(M:Sep (Ms w sb ib eb db y cv day amt s uv wv) W)(ha:Fct amt.ok)(h0:Fct (r.n≠0)):Calls prog 63 #[.pointer sb,.agg (au ⟨3,A,B,r.neg,bs r.n,bs r.d⟩).toArray] W (iT w sb ib eb db y cv day amt (match divR amt r with|none=> .stop 2 s|some q=> .go {s with bat:=q,lead:=B})):=by
 unfold Ms MsB MsA stC at M
 cases h:divR amt r;all_goals
  go_enter func63,ntmps63
  go_wp2_with refine mz M fun M=>?_
  refine mg1 M 4 [0,1,2,3,5,6,1004,1007,8,9,1010,11,12,1013] fun _ M=>?_
  repeat(first|refine sz M fun M=>?_|refine sj M fun M=>?_|refine sv M fun M=>?_|refine sp M fun M=>?_|refine sQ ?_)
  try refine aj ?_
  first
  |exact⟨rfl,s,uv,wv,M.dr 1,.inr ⟨2,rfl,rfl⟩⟩
  |skip
 go_wp2_with refine mz M fun M=>?_;refine mr M ⟨_,uv,wv,?_,.inl ⟨rfl,rfl⟩⟩;exact M.dr 1
def ET(M:Sep (Ms w sb ib eb db y cv day amt s uv wv) W)(hl:s.uses.length<=65536):Calls prog 64 #[.pointer sb,.agg (au ⟨4,A,B,r.neg,bs r.n,bs r.d⟩).toArray] W (iT w sb ib eb db y cv day amt (match mulR r s.bat with|none=> .stop 2 s|some a=> .go {s with uses:=s.uses++[⟨A,a,false,B==1⟩]})):=by
 have hL:(s.uses.map eO).length<=16777216:=by rw[N6];omega
 unfold Ms MsB MsA stC at M
 cases h:mulR r s.bat;all_goals
  go_enter func64,ntmps64
  go_wp2_with refine mz M fun M=>?_
  refine mMR M 4 5 25 [0,1,2,3,4,5,6,7,8,9,10,11,12,17,18,19,1013,14,15,1016,20,1021,1022,523,24,1025] fun _ M=>?_
  repeat(first|refine nq ?_|refine nz ?_|refine nc M fun _ M=>?_|refine ne M fun _ M=>?_|refine np M fun _ _ _ _ M=>?_|refine nv M fun _ _ M=>?_|refine nx M fun _ M=>?_|refine nQ ?_|refine sz M fun M=>?_|refine sj M fun M=>?_|refine sv M fun M=>?_|refine sp M fun M=>?_|refine sQ ?_)
  try refine aj ?_
  first
  |exact⟨rfl,s,uv,wv,M.dr 1,.inr ⟨2,rfl,rfl⟩⟩
  |skip
 go_wp2_with refine mz M fun M=>?_;exact mr M ⟨_,_,wv,by simp only[Ms,MsB,MsA,N9];exact M.dr 2,.inl ⟨rfl,rfl⟩⟩
def EU(M:Sep (Ms w sb ib eb db y cv day amt s uv wv) W)(hl:s.uses.length<=65536):Calls prog 65 #[.pointer sb,.agg (au ⟨5,A,B,r.neg,bs r.n,bs r.d⟩).toArray] W (iT w sb ib eb db y cv day amt (match mulR r s.bat with|none=> .stop 2 s|some a=> .go {s with uses:=s.uses++[⟨A,a,true,false⟩]})):=by
 have hL:(s.uses.map eO).length<=16777216:=by rw[N6];omega
 unfold Ms MsB MsA stC at M
 cases h:mulR r s.bat;all_goals
  go_enter func65,ntmps65
  go_wp2_with refine mz M fun M=>?_
  refine mMR M 4 5 22 [0,1,2,3,4,5,6,7,8,9,10,11,12,1013,14,15,1016,17,1018,1019,520,21,1022] fun _ M=>?_
  repeat(first|refine nq ?_|refine nz ?_|refine nc M fun _ M=>?_|refine ne M fun _ M=>?_|refine np M fun _ _ _ _ M=>?_|refine nv M fun _ _ M=>?_|refine nx M fun _ M=>?_|refine nQ ?_|refine sz M fun M=>?_|refine sj M fun M=>?_|refine sv M fun M=>?_|refine sp M fun M=>?_|refine sQ ?_)
  try refine aj ?_
  first
  |exact⟨rfl,s,uv,wv,M.dr 1,.inr ⟨2,rfl,rfl⟩⟩
  |skip
 go_wp2_with refine mz M fun M=>?_;exact mr M ⟨_,_,wv,by simp only[Ms,MsB,MsA,N9];exact M.dr 2,.inl ⟨rfl,rfl⟩⟩
def EV(M:Sep (Ms w sb ib eb db y cv day amt s uv wv) W)(hl:s.works.length<=65536)(hs:s.bat.neg=false)(h0:0<=B)(h1:B<=15):Calls prog 66 #[.pointer sb,.agg (au ⟨6,A,B,neg,n,d⟩).toArray] W (iT w sb ib eb db y cv day amt (match ceilR s.bat with|none=> .stop 2 s|some k=>if 1099511627776<k then .stop 2 s else .go {s with works:=s.works++[(A,B*k)]})):=by
 have hL:(s.works.map fY).length<=16777216:=by rw[N6];omega
 haveI:∀As [Old As w],aB prog 17 #[.agg (rtC s.bat).toArray] As (kg (ceilR s.bat)):=fun As _=>⟨fun W M=>wS s.bat W hb.out hs (hT.1.below M.bel)⟩
 unfold Ms MsB MsA stC at M
 cases h:ceilR s.bat
 case' some k=>
  by_cases hk:1099511627776<k
  case' pos=>have t1:decide (1099511627776<(k:Int))=true:=by simp;omega
  case' neg=>
   have t1:decide (1099511627776<(k:Int))=false:=by simp;omega
   have e1:IntKind.i64.wrap (B*(k:Int))=B*(k:Int):=by
    rw[NC];have h2:B*(k:Int)<=15*1099511627776:=Int.mul_le_mul h1 (by omega) (by omega) (by omega);have h3:0<=B*(k:Int):=Int.mul_nonneg h0 (by omega);omega
 all_goals
  go_enter func66,ntmps66
  go_wp2_with refine mz M fun M=>?_
  first
  |exact mx M fun _ M=>⟨rfl,s,uv,wv,M.dr 1,.inr ⟨2,rfl,rfl⟩⟩
  |exact⟨rfl,s,uv,wv,M.dr 1,.inr ⟨2,rfl,rfl⟩⟩
  |(simp only[hk,if_true];exact⟨rfl,s,uv,wv,M.dr 1,.inr ⟨2,rfl,rfl⟩⟩)
  |skip
 refine mMR M 4 6 16 [0,1,2,3,4,5,6,7,8,9,10,11,1012,1013,514,15,1016] fun _ M=>?_;repeat(first|refine nq ?_|refine nz ?_|refine nc M fun _ M=>?_|refine ne M fun _ M=>?_|refine np M fun _ _ _ _ M=>?_|refine nv M fun _ _ M=>?_|refine nx M fun _ M=>?_|refine nQ ?_|refine sz M fun M=>?_|refine sj M fun M=>?_|refine sv M fun M=>?_|refine sp M fun M=>?_|refine sQ ?_)
 try refine aj ?_
 go_wp2_with refine mz M fun M=>?_;try simp only[hk,if_false]
 try rw[e1]at M
 exact mr M ⟨_,uv,_,by simp only[Ms,MsB,MsA,N9];exact M.dr 2,.inl ⟨rfl,rfl⟩⟩
end
def EW(be:Nat)(k:Int)(a0)(w)(he:Blk w be [a0] 41) :CallsD prog 60 #[.pointer be] (.panicking (j9 k)) w fun e u' w'=>e=.returned (.tuple #[])/\u'=.panicking [{v:= .iface 133 (.agg #[.int .i64 k]),recovered:=true}]/\w'=(w.setCell ⟨be,0,none⟩ (.int .i64 k)).alloc (.cells #[.int .i64 k] 133):=by
 have ab:∀W:World,(Instr.typeAssert (.iface 133 (.agg #[.int .i64 k])) 20 133 true).run prog W=.ok (.tuple #[.agg #[.int .i64 k],.bool true]) W:=fun W=>by kernel_rfl
 obtain⟨q0,f0⟩:=he.at 0 _ rfl;have ac:=he.lt;have ad:¬w.heap.size=be:=by omega
 have ag:¬be=w.heap.size:=by omega
 refine callsD_of_wpS func60 rfl fun c₀ cs hu=>?_;unfold j9 at hu;apply wpS_seq;apply wpS_region;simp[wpOpsS,go_sem,recoverD,hu,ntmps60,Exit.thenS,ab];refine wpS_of_wp ?_;simp only[NZ,N0,N1,N2,M9,MZ,NY,OB,OC];go_wp2;simp[bodyPostS,results,results60]
def wX(w:World)(sb:Nat)(cv:Value)(day:Int)(amt:Rt)(R:Int×Mst)(e:Ending)(W:World):Prop:=
 e=.returned (.int .i64 R.1)/\∃uv wv,Sep (MsA w sb cv day amt R.2 uv wv) W
section
variable {w W:World} {sb ib eb db:Nat} {x y:In} {cv:Value} {ch:List Int} {day:Int} {amt:Rt} {s:Mst} {uv wv:Value} {R:Int×Mst}
def wY(M:Sep (MsB w sb eb db cv day amt s uv wv) W)(tmps:Array Value)(h4:tmps.getD 4 undef=.pointer eb)(k:Int)(hR:R=(k,s)) :Leaves prog Tryz.f37 tmps (wX w sb cv day amt R) [{target:= .fn (.func 60) #[.pointer eb],args:=#[]}] (.panicking (j9 k)) W:=by
 subst hR;rw[Ow]at h4;have he:Blk W eb [.int .i64 0] 41:=M.blk (i:=1) ⟨rfl⟩;refine leaves_cons (f:=60) (args:=#[.pointer eb]) (by simp) (by simp[go_sem]) ?_;refine(EW eb k _ W he).mono ?_;rintro e u' w'' ⟨rfl,rfl,rfl⟩;have hE:Blk ((W.setCell ⟨eb,0,none⟩ (.int .i64 k)).alloc (.cells #[.int .i64 k] 133)) eb [.int .i64 k] 41:=(he.set 0 _).alloc _;obtain⟨p0,g0⟩:=hE.at 0 _ rfl;exact⟨.int .i64 k,by simp[results,results37,go_sem,h4,p0],rfl,uv,wv,((M.put (i:=1) (cs:=[.int .i64 k]) ⟨rfl⟩ (he.set 0 _) (cM _ _ _ _)).alloc [.int .i64 k] 133).dr 3⟩
def EX{after:Int}(hT:Fct (Tab w))(hv:bD x after=true)(hn:s.next<=8192)(av:after<=8192)(ao:s.uses.length<=8192)(ar:s.works.length<=8192)(ad:s.bat.ok)(ag:s.bat.neg=false)(ha:amt.ok)(al:ah w cv Int 1 ch af) :∃f,doL[x.op.toNat]? = some (.func (.func f) #[] #[])/\(∀args W',(callFunc f args).run prog W'=.ok (.enter f args) W')/\ ∀W,Sep (Ms w sb ib eb db y cv day amt s uv wv) W->Calls prog f #[.pointer sb,.agg (au x).toArray] W (iT w sb ib eb db y cv day amt (stepI ch day amt x s)):=by
 haveI:=Fct.mk ad;haveI:=Fct.mk ha;have an:=vld_op hv;obtain⟨op,A,B,neg,n,d⟩:=x;rcases op_cases an with h|h|h|h|h|h|h|h <;> (simp only at h;subst h)
 ·exact⟨61,rfl,enters_of func61 (by kernel_rfl) rfl,fun W M=>EN M (by simp[bD,btw]at hv;omega) (by omega) al⟩
 ·have hA:0<=A/\A<after:=by simp[bD]at hv;exact hv
  obtain⟨k,rfl⟩:=Int.eq_ofNat_of_zero_le hA.1;exact⟨62,rfl,enters_of func62 (by kernel_rfl) rfl,fun W M=>EO M (by omega) (by omega)⟩
 ·have hA:alz neg n d=true/\n.toList.isEmpty=false:=by simp[bD]at hv;exact⟨hv.1.1.1,by simpa using hv.1.1.2⟩
  obtain⟨r,hr,ac,rfl,rfl,rfl,ab⟩:=pm hA.1;haveI:=Fct.mk hr;have h0:r.n≠0:=fun e=>by have:=hA.2;rw[iN,e]at this;simp at this
  refine⟨63,rfl,enters_of func63 (by kernel_rfl) rfl,fun W M=>?_⟩;have:=ES (r:=r) (A:=A) (B:=B) M ⟨ha⟩ ⟨h0⟩;rw[ac]at this;simp only[stepI,In.rt,<-ab,Int.reduceEq,↓reduceIte];exact this
 ·have hA:alz neg n d=true:=by simp[bD]at hv;exact hv.1.1
  obtain⟨r,hr,ac,rfl,rfl,rfl,ab⟩:=pm hA;haveI:=Fct.mk hr;refine⟨64,rfl,enters_of func64 (by kernel_rfl) rfl,fun W M=>?_⟩;have:=ET (r:=r) (A:=A) (B:=B) M (by omega);rw[ac]at this;simp only[stepI,In.rt,<-ab,Int.reduceEq,↓reduceIte];exact this
 ·have hA:alz neg n d=true:=by simp[bD]at hv;exact hv.1.1
  obtain⟨r,hr,ac,rfl,rfl,rfl,ab⟩:=pm hA;haveI:=Fct.mk hr;refine⟨65,rfl,enters_of func65 (by kernel_rfl) rfl,fun W M=>?_⟩;have:=EU (r:=r) (A:=A) (B:=B) M (by omega);rw[ac]at this;simp only[stepI,In.rt,<-ab,Int.reduceEq,↓reduceIte];exact this
 ·have hA:0<=B/\B<=15:=by simp[bD,btw]at hv;omega
  exact⟨66,rfl,enters_of func66 (by kernel_rfl) rfl,fun W M=>EV M (by omega) ag hA.1 hA.2⟩
 ·exact⟨67,rfl,enters_of func67 (by kernel_rfl) rfl,fun W M=>EP M⟩
 ·exact⟨68,rfl,enters_of func68 (by kernel_rfl) rfl,fun W M=>EQ M⟩
structure wZ(l:List In)(ch:List Int)(day:Int)(amt:Rt)(R:Int×Mst)(s:Mst)(g:Nat):Prop where
 run:dt l ch day amt g s=R
 gas:l.length<=g+s.next
 lt:s.next<l.length
 bat:s.bat.ok
 pos:s.bat.neg=false
 lu:s.uses.length<=s.next
 lw:s.works.length<=s.next
 fl:s.fuel<=9223372036854775807
def sF(W:World)(sb:Nat):Nat:=match W.cell? ⟨sb,9,none⟩with|some (.int _ n)=>n.toNat|_=>0
def xe{b:Nat}{cv}{day:Int}{amt bat}{k:Nat}{next lead:Int}{uv wv}(h:Blk W b (stC cv day amt bat next (k:Int) lead uv wv) 100):sF W b=k:=by
 unfold sF;rw[(h.at 9 _ rfl).1];simp
def EY{fuel:Nat}{l:List In}{cdv}(hT:Fct (Tab w))(M:Sep (MsA w sb cv day amt (bL fuel) (.slice none 0 0) (.slice none 0 0)) W)(hl:eN l)(hc:ah w cdv In 6 l au)(ao:ah w cv Int 1 ch af)(hf:fuel<9223372036854775808)(ha:amt.ok)(hn:amt.neg=false) :Calls prog 37 #[.pointer sb,cdv] W (wX w sb cv day amt (dt l ch day amt l.length (bL fuel))):=by
 have ba:=mF;obtain⟨R,hR⟩:=nm (dt l ch day amt l.length (bL fuel));have start:Hid (wZ l ch day amt R (bL fuel) l.length):=⟨hR,No _,hl.1,show(⟨false,0,1⟩:Rt).ok by decide,rfl,No _,No _,by show fuel<=_;omega⟩
 rw[hR];replace hl:=MY hl;clear hR hf;go_enter_defers func37,ntmps37;go_wp2_with refine mz M fun M=>?_;go_loopw [6] (fun v Wr=>∃s g uv wv,Hid (wZ l ch day amt R s g)/\M.h2 (MsA w sb cv day amt s uv wv) Wr) (fun _ Wr=>sF Wr sb)
 case atStart=>exact⟨_,_,_,_,start,M⟩
 clear start;obtain⟨s,g,uv,wv,HI,M⟩:=hrel;simp only[Sep.h2]at M;have ad:=xe (M.blk (i:=2) ⟨rfl⟩);by_cases ab:s.fuel=0
 ·have hr:R=(170,s):=by
   obtain⟨g',hg'⟩:∃g',g=g'+1:=⟨g-1,by have:=HI.gas;have:=HI.lt;omega⟩
   rw[<-HI.run,hg',dt,if_pos ab]
  have t0:((s.fuel:Int)==0)=true:=by rw[ab];rfl
  clear ab;go_wp2_with refine mz M fun M=>?_;exact wY M _ rfl 170 hr
 obtain⟨x,hx⟩:=gx (l:=l) (i:=s.next) HI.lt;obtain⟨f',ac⟩:∃f',s.fuel=f'+1:=⟨s.fuel-1,by omega⟩
 have tf:((s.fuel:Int)==0)=false:=by rw[beq_eq_false_iff_ne];omega
 have e9:IntKind.i64.wrap ((s.fuel:Int)-1)=(f':Int):=by have:=HI.fl;rw[ac,NC];omega
 have e8:IntKind.i64.wrap ((s.next:Int)+1)=((s.next+1:Nat):Int):=by have:=HI.lt;have:=hl.2.1;rw[NC];omega
 have ag:=hl.2.2.1 s.next x hx
 obtain⟨av,ax⟩:=vld_op ag;have bb:(0:Int)<=x.op:=by omega
 have bc:x.op<(9:Int):=by omega
 have HF:=MY ac;have HX:=MY hx;have HV:=MY ag;replace ad:=MY ad;replace ab:=MY ab;clear ac ag av ax;go_wp2_with refine mz M fun M=>?_;try simp only[e8,e9]at M
 obtain⟨ib,db,rfl,rfl⟩:=M.a2;obtain⟨eb,rfl⟩:=(M.dr 2).a1;obtain⟨f,ar,aA,HS⟩:=EX (x:=x) (y:=x) (ch:=ch) (s:={s with fuel:=f',next:=s.next+1}) (sb:=sb) hT HV.out (by have:=HI.lt;have:=hl.2.1;show s.next+1<=_;omega) (by have:=hl.2.1;omega) (by have:=HI.lu;have:=HI.lt;have:=hl.2.1;show s.uses.length<=_;omega) (by have:=HI.lw;have:=HI.lt;have:=hl.2.1;show s.works.length<=_;omega) HI.bat HI.pos ha ao;replace M:Sep (Ms w sb ib eb db x cv day amt {s with fuel:=f',next:=s.next+1} uv wv) _:=M;obtain⟨g',hg'⟩:∃g',g=g'+1:=⟨g-1,by have:=HI.gas;have:=HI.lt;omega⟩
 have HR:Hid (R=match stepI ch day amt x {s with fuel:=f',next:=s.next+1}with |.go s'=>dt l ch day amt g' s' |.stop e s'=>(e,s')):=by
  rw[<-HI.run,hg',ka,if_neg ab.out,HX.out];simp only;rw[show s.fuel-1=f' from by have:=HF.out;omega];rfl
 replace HI:Hid (l.length<=g+s.next/\s.uses.length<=s.next/\s.works.length<=s.next/\s.bat.ok/\s.bat.neg=false/\s.fuel<=9223372036854775807):=⟨HI.gas,HI.lu,HI.lw,HI.bat,HI.pos,HI.fl⟩
 refine sA 4 4 (.pointer eb) (.pointer eb) [{target:= .fn (.func 60) #[.pointer eb],args:=#[]}] (fun c W=>∃k s' uv wv,c=j9 k/\R=(k,s')/\Sep (MsB w sb eb db cv day amt s' uv wv) W) ?_ ?_
 ·rintro c ⟨tm,df⟩ W hd h4 _ ⟨k,s',uv,wv,rfl,hr,M⟩;simp only at hd;subst hd;exact wY M tm h4 k hr
 refine mg (ι:=Mst×Value×Value) (g:=fun z=>Ms w sb ib eb db x cv day amt z.1 z.2.1 z.2.2) M [0,1,2,3,4,5,1006] ?_ ⟨⟨(_,_,_),rfl⟩⟩ (fun _=>rfl) (hQ:=by exact dO.puts (by kernel_rfl));clear M;intro _ M;repeat(first|refine sq ?_|refine sQ ?_)
 refine sq ?_ (hq:=fun z=> .load rfl rfl inferInstance (.cell ar rfl));repeat(first|refine sq ?_|refine sQ ?_)
 refine gB rfl rfl rfl fun K hK=>?_;go_simp;refine(HS _ M).mono ?_;rintro e W2 ⟨s',al,an,M2,⟨ho,rfl⟩|⟨k,ho,rfl⟩⟩
 ·obtain⟨p1,p2,p3,p4,p5,p6,p7⟩:=DZ (s:={s with fuel:=f',next:=s.next+1}) hl.out HX.out rfl HI.2.2.2.1 HI.2.2.2.2.1 ha hn ho;have hR:=HR.out;rw[ho]at hR;obtain⟨r1,r2,r3,r4,r5,r6⟩:=HI.out;have:=HF.out;simp only at p5 p6 p7;replace ho:=MY ho;refine hK.out _ _ ⟨(s',al,an),M2⟩ fun _=>aj (dO.normal ?_);go_wp2;refine⟨⟨s',g',al,an,⟨hR.symm,by omega,p1,p3,p4,by omega,by omega,by omega⟩,M2.dr 1⟩,?_⟩;rw[xe (M2.blk (i:=3) ⟨rfl⟩),ad.out];omega
 ·have hR:=HR.out;rw[ho]at hR;exact⟨rfl,rfl,rfl,k,rfl,s',hR,al,an,M2.dr 1⟩
end
def jE(v cv)(l:List In)(c:List Int)(neg:Bool)(n d)(fuel:Int)(w)(hv:RowC w 6 v (l.map au))(hl:l.length<=4096)(hc:RowC w 1 cv (c.map af))(ba:c.length<=4096)(hf:fuel<9223372036854775808)(hT:Tab w) :Calls prog 18 #[v,cv,.agg #[.bool neg,.string n,.string d],.int .i64 fuel] w (DW w (cG l c neg n d fuel)):=by
 haveI HT:=Fct.mk hT;haveI aA:ah w v In 6 l au:=⟨hv,by omega⟩
 haveI al:ah w cv Int 1 c af:=⟨hc,by omega⟩
 haveI h1:∀As [Old As w],aB prog 20 #[v] As (.int .i64 (iQ l)):=fun As _=>⟨fun W M=>sB (hv.below M.bel) hl (hT.below M.bel)⟩
 haveI h2:∀As [Old As w],aB prog 8 #[.agg #[.bool neg,.string n,.string d]] As (.int .i64 (rchk neg n d)):=fun As _=>⟨fun W M=>iP neg n d W (hT.below M.bel)⟩
 haveI h3:∀As [Old As w],aB prog 33 #[.int .i64 0,.int .i64 1] As (.tuple #[.agg #[.bool false,.string (bs 0),.string (bs 1)],.int .i64 0]):=fun As _=>⟨fun W M=>by
  have:=ej 0 1 W (by omega) (by omega) (by omega) (hT.below M.bel);rwa[show lowR false 0 1=⟨false,0,1⟩ by simp[lowR]]at this⟩
 have M:=Sep.new w;by_cases hp:eN l
 case' neg=>
  simp only[mU hp]at h1;rw[DX hp]
 case' pos=>
  simp only[rZ hp]at h1;by_cases hr:bN neg n d
  case' neg=>
   simp only[iO hr]at h2;rw[DY hp c hr]
  case' pos=>
   simp only[gY hr]at h2;by_cases ac:neg=true
   case' pos=>
    subst ac;rw[pj hp hr (.inl rfl)]
   case' neg=>
    obtain rfl:neg=false:=by simpa using ac
    by_cases ab:c=[]
    case' pos=>
     rw[pj hp hr (.inr (.inl ab))];have hz:((c.length:Int)==0)=true:=by rw[ab];rfl
    case' neg=>
     have hz:((c.length:Int)==0)=false:=by have:=List.length_pos_iff.2 ab;rw[beq_eq_false_iff_ne];omega
     by_cases ad:fuel<0
     case' pos=>
      rw[pj hp hr (.inr (.inr ad))];have ar:decide (fuel<0)=true:=by simpa using ad
     case neg=>
      rw[jt hp hr (by simp[ab,ad])];obtain⟨r,ax,an,rfl,rfl⟩:=hr.to;obtain⟨_,x,y⟩:=r;simp only at an;subst an;simp only[aU];obtain⟨f,rfl⟩:=Int.eq_ofNat_of_zero_le (Int.not_lt.1 ad);obtain⟨k,hk⟩:∃k,c.length=k+1:=⟨c.length-1,by have:=List.length_pos_iff.2 ab;omega⟩
      obtain⟨A,cap,rfl⟩:=al.sl;have ag:=hc.cap;have e1:IntKind.i64.wrap ((c.length:Int)-1)=(k:Int):=by rw[NC];omega
      have hx:c[k]? = some (c.getLast?.getD 0):=by
       rw[List.getLast?_eq_getElem?,hk,Nat.add_sub_cancel,Nx (by omega)];rfl
      have hd:ah w (.slice A k cap) Int 1 c.dropLast af:=by
       have:=al.tk (m:=k) (by omega);rwa[show c.take k=c.dropLast by rw[List.dropLast_eq_take,hk,Nat.add_sub_cancel]]at this
      have bb:(k:Int)<=(cap:Int):=by omega
      have av:(0:Int)<=(k:Int):=by omega
      have ar:decide ((f:Int)<0)=false:=by simp
      generalize c.getLast?.getD 0=day at *;generalize c.dropLast=ch at *;obtain⟨R,hR⟩:=nm (dt l ch day ⟨false,x,y⟩ l.length (bL ((f:Int).toNat)));rw[hR];rw[NI]at hR;replace hR:=MY hR;replace hx:=MY hx;have hi:Hid ((0:Int)<=(k:Int)/\c[(k:Int).toNat]? = some day):=⟨av,by rw[NI];exact hx.out⟩
      clear hk ab ag hr hv hc ad ac;go_enter func18,ntmps18;go_wp2_with refine mz M fun M=>?_;refine mg M [0,1,2,3,4,5,6,7,8,9,10,1011,12] fun _ M=>?_;repeat(first|refine sz M fun M=>?_|refine sj M fun M=>?_|refine sv M fun M=>?_|refine sp M fun M=>?_|refine sb M fun _ _ _ M=>?_|refine sQ ?_)
      try refine aj ?_
      go_wp2_with refine mz M fun M=>?_;refine(EY HT (((M.nilR 69 2).nilR 65 6).pk [2,0,1,5]) hp aA hd (by omega) ax rfl).mono ?_;rw[hR.out];rintro e W2 ⟨rfl,uv,wv,M⟩
      cases h0:R.1==0;all_goals
       have ao:(R.1 != 0) = !(R.1==0):=rfl
       rw[h0]at ao
       go_wp2_with refine mz M fun M=>?_
      ·exact mr M ⟨M.bel,.inr ⟨by simpa using h0,rfl⟩⟩
      ·refine mg M [0,1,2,3,4,5,6,7,8,9,10,11,12,13,14,15,16,17,18,19,20] fun _ M=>?_;repeat(first|refine sz M fun M=>?_|refine sj M fun M=>?_|refine sv M fun M=>?_|refine sp M fun M=>?_|refine sb M fun _ _ _ M=>?_|refine sQ ?_)
       try refine aj ?_
       go_wp2_with refine mz M fun M=>?_;exact mr M ⟨M.bel,.inl ⟨by simpa using h0,uv,wv,rfl,M.own0,M.own0⟩⟩
 all_goals
  clear hp
  try clear ab
  go_enter func18,ntmps18
  go_wp2_with refine mz M fun M=>?_
  exact mr M ⟨M.bel,.inr ⟨by simp,rfl⟩⟩
abbrev EZ(w:World)(v:Value)(l:List In):Prop:=RowC w 6 v (l.map au)
abbrev sG(w:World)(v:Value)(us:List d9):Prop:=RowC w 6 v (us.map eO)
abbrev sH(w:World)(v:Value)(ws:List (Int×Int)):Prop:=RowC w 2 v (ws.map fY)
section
def pG(n d:Nat)(w)(hn:n<9223372036854775808)(hd:d<9223372036854775808)(h0:0<d)(hT:Tab w):Calls prog 14 #[.int .i64 (n:Int),.int .i64 (d:Int)] w (Ret w (bA (lowR false n d))):=by
 haveI:∀As [Old As w],aB prog 33 #[.int .i64 (n:Int),.int .i64 (d:Int)] As (.tuple #[.agg (rtC (lowR false n d)).toArray,.int .i64 0]):=fun As _=>⟨fun W M=>ej n d W hn hd h0 (hT.below M.bel)⟩
 have M:=Sep.new w;go_enter func14,ntmps14;go_wp2_with refine mz M fun M=>?_;exact mr M ⟨rfl,M.bel⟩
def E8(neg:Bool)(n d)(w):Calls prog 6 #[.agg #[.bool neg,.string n,.string d]] w (Ret w (.bool (decide (n.size<=40)&&decide (d.size<=40)))):=by
 have M:=Sep.new w;rw[show decide (n.size<=40)=decide ((n.size:Int)<=40) by rw[decide_eq_decide];omega,show decide (d.size<=40)=decide ((d.size:Int)<=40) by rw[decide_eq_decide];omega]
 cases h1:decide ((n.size:Int)<=40)
 case' true=>cases h2:decide ((d.size:Int)<=40)
 all_goals
  go_enter func6,ntmps6
  go_wp2_with refine mz M fun M=>?_
  exact mr M ⟨rfl,M.bel⟩
def E9(u:d9)(W):(binOp .neq 65 (.agg #[.int .i64 u.item,.bool u.amt.neg,.string (bs u.amt.n),.string (bs u.amt.d),.bool u.out,.bool u.back]) (.agg #[.int .i64 u.item,.bool u.amt.neg,.string (bs u.amt.n),.string (bs u.amt.d),.bool u.out,.bool u.back])).run prog W=.ok (.bool false) W:=by
 simp[go_sem]
def Fa(a b:Int)(W):(binOp .neq 69 (.agg #[.int .i64 a,.int .i64 b]) (.agg #[.int .i64 a,.int .i64 b])).run prog W=.ok (.bool false) W:=by
 simp[go_sem]
def sI(v v')(us:List d9)(w)(h:RowC w 6 v (us.map eO))(h':RowC w 6 v' (us.map eO))(hl:us.length<=1048576):Calls prog 21 #[v,v'] w (Ret w (.bool true)):=by
 haveI:ah w v d9 6 us eO:=⟨h,hl⟩
 haveI:ah w v' d9 6 us eO:=⟨h',hl⟩
 have M:=Sep.new w;go_enter func21,ntmps21;go_wp2_with refine mz M fun M=>?_;go_loopw [5] (fun i W=>∃k:Nat,k<=us.length/\i=.int .i64 k/\M.w0 W) (fun i _=>us.length-(intOf i).toNat)
 case atStart=>exact⟨0,Nu _,rfl,M⟩
 obtain⟨k,hk,rfl,M⟩:=hrel;simp only[Sep.w0]at M;by_cases ab:k<us.length
 ·obtain⟨u,hu⟩:=gx (l:=us) (i:=k) ab;have ac:∀W,(binOp .neq 65 (.agg (eO u).toArray) (.agg (eO u).toArray)).run prog W=.ok (.bool false) W:=E9 u;go_wp2_with refine mz M fun M=>?_;refine mg M [0,1,2,3,4,5,6,7,8] fun _ M=>?_;repeat(first|refine sz M fun M=>?_|refine sj M fun M=>?_|refine sv M fun M=>?_|refine sp M fun M=>?_|refine sQ ?_)
  try refine aj ?_
  go_wp2_with refine mz M fun M=>?_;go_roundw
  case rel=>exact⟨k+1,by omega,by go_num,M⟩
  case measure=>simp[intOf];omega
 ·go_wp2_with refine mz M fun M=>?_;exact mr M ⟨rfl,M.bel⟩
def Fb(v v')(us:List (Int×Int))(w)(h:RowC w 2 v (us.map fY))(h':RowC w 2 v' (us.map fY))(hl:us.length<=1048576):Calls prog 22 #[v,v'] w (Ret w (.bool true)):=by
 haveI:ah w v (Int×Int) 2 us fY:=⟨h,hl⟩
 haveI:ah w v' (Int×Int) 2 us fY:=⟨h',hl⟩
 have M:=Sep.new w;go_enter func22,ntmps22;go_wp2_with refine mz M fun M=>?_;go_loopw [5] (fun i W=>∃k:Nat,k<=us.length/\i=.int .i64 k/\M.w0 W) (fun i _=>us.length-(intOf i).toNat)
 case atStart=>exact⟨0,Nu _,rfl,M⟩
 obtain⟨k,hk,rfl,M⟩:=hrel;simp only[Sep.w0]at M;by_cases ab:k<us.length
 ·obtain⟨u,hu⟩:=gx (l:=us) (i:=k) ab;have ac:∀W,(binOp .neq 69 (.agg (fY u).toArray) (.agg (fY u).toArray)).run prog W=.ok (.bool false) W:=Fa u.1 u.2;go_wp2_with refine mz M fun M=>?_;refine mg M [0,1,2,3,4,5,6,7,8] fun _ M=>?_;repeat(first|refine sz M fun M=>?_|refine sj M fun M=>?_|refine sv M fun M=>?_|refine sp M fun M=>?_|refine sQ ?_)
  try refine aj ?_
  go_wp2_with refine mz M fun M=>?_;go_roundw
  case rel=>exact⟨k+1,by omega,by go_num,M⟩
  case measure=>simp[intOf];omega
 ·go_wp2_with refine mz M fun M=>?_;exact mr M ⟨rfl,M.bel⟩
end
def e0:ByteArray:=⟨#[]⟩
def bH:List In:=[⟨1,0,2,false,e0,e0⟩,⟨2,6,0,false,e0,e0⟩,⟨1,-1,3,false,e0,e0⟩,⟨2,4,0,false,e0,e0⟩,⟨3,5,2,false,bs 4,bs 1⟩,⟨4,1,1,false,bs 5,bs 2⟩,⟨6,1,3,false,e0,e0⟩,⟨7,0,0,false,e0,e0⟩,⟨3,0,0,false,bs 1,bs 1⟩,⟨5,3,0,false,bs 7,bs 1⟩,⟨7,0,0,false,e0,e0⟩]
def m8(w)(hT:Tab w):Calls prog 19 #[] w fun e w'=>∃v,e=.returned v/\EZ w' v bH/\eB w w':=by
 have hr:∀(n d:Nat),0<d->n<1000->d<1000->lowR false n d=⟨false,n,d⟩->∀As [Old As w],aB prog 14 #[.int .i64 (n:Int),.int .i64 (d:Int)] As (.agg #[.bool false,.string (bs n),.string (bs d)]):=fun n d h0 hn hd h As _=>⟨fun W M=>by
  have:=pG n d W (by omega) (by omega) h0 (hT.below M.bel);rwa[h]at this⟩
 haveI:=hr 4 1 (by omega) (by omega) (by omega) (by simp[lowR]);haveI:=hr 5 2 (by omega) (by omega) (by omega) (by simp[lowR]);haveI:=hr 1 1 (by omega) (by omega) (by omega) (by simp[lowR]);haveI:=hr 7 1 (by omega) (by omega) (by omega) (by simp[lowR]);clear hr;have M:=Sep.new w;go_enter func19,ntmps19;go_wp2_with(first|refine mz M fun M=>?_|refine mp M fun M=>?_|refine mv M fun M=>?_);refine mr M ⟨.slice _ 11 11,rfl,?_,M.bel⟩;exact RowC.of_blk (k:=6) (n:=11) (M.blk (i:=0) ⟨rfl⟩) (bH.map au) rfl (fun c hc=>by obtain⟨a,_,rfl⟩:=OE.1 hc;rfl) rfl 11 (No _)
def pH{n:Nat}(h:n<100):n<LIM:=Nf h (Nv (show 100<=256^1 by decide) (Ng (show 0<256 by decide) (show 1<=256 by decide)))
def lz(n d:Nat)(hn:n<100)(hd:d<100)(h0:0<d)(hg:Nat.gcd n d=1):bN false (bs n) (bs d):=
 bN.of (r:=⟨false,n,d⟩) ⟨pH hn,pH hd,h0,hg,fun h=>by cases h⟩
def pI(n d:Nat)(hn:n<100)(hd:d<100)(h0:0<d)(hg:Nat.gcd n d=1):alz false (bs n) (bs d)=true:=rY.2 ⟨lz n d hn hd h0 hg,rfl⟩
def xg(n:Nat)(h:0<n):(bs n).toList.isEmpty=false:=by
 rw[iN];simp;omega
def m9:eN bH:=by
 refine⟨by simp[bH],by simp[bH],fun i x hx=>?_,fun x hx=>?_⟩
 ·have a1:=pI 4 1 (by omega) (by omega) (by omega) rfl;have a2:=pI 5 2 (by omega) (by omega) (by omega) rfl;have a3:=pI 1 1 (by omega) (by omega) (by omega) rfl;have a4:=pI 7 1 (by omega) (by omega) (by omega) rfl;have b1:=xg 4 (by omega);have b2:=xg 1 (by omega);have hi:i<11:=by
   have:=(NQ.1 hx).1;simpa[bH]using this
  have hc:i=0\/i=1\/i=2\/i=3\/i=4\/i=5\/i=6\/i=7\/i=8\/i=9\/i=10:=by omega
  rcases hc with rfl|rfl|rfl|rfl|rfl|rfl|rfl|rfl|rfl|rfl|rfl <;>
   (simp[bH]at hx;subst hx;simp[bD,bH,btw,a1,a2,a3,a4,b1,b2])
 ·simp[bH]at hx;subst hx;simp
def pJ{a b:Rt}(h1:a.n*b.n<100)(h2:a.d*b.d<100):mulR a b=some (lowR (a.neg != b.neg) (a.n*b.n) (a.d*b.d)):=if_pos ⟨pH h1,pH h2⟩
def Fc:cG bH [2,3] false (bs 6) (bs 1) 20=(0,{bat:=⟨false,3,2⟩,next:=8,fuel:=14,lead:=2,uses:=[⟨1,⟨false,15,4⟩,false,true⟩],works:=[(1,6)]}):=by
 rw[jt m9 (lz 6 1 (by omega) (by omega) (by omega) rfl) (by simp)];rw[aU,aU];have m1:divR ⟨false,6,1⟩ ⟨false,4,1⟩=some ⟨false,3,2⟩:=by unfold divR iM;rw[pJ (by simp) (by simp)];simp[lowR]
 have m2:mulR ⟨false,5,2⟩ ⟨false,3,2⟩=some ⟨false,15,4⟩:=by rw[pJ (by simp) (by simp)];simp[lowR]
 have m3:ceilR ⟨false,3,2⟩=some 2:=by simp[ceilR]
 simp[ka,bH,bL,stepI,cg,In.rt,aU,m1,m2,m3]
def m6:divR ⟨false,6,1⟩ ⟨false,1,1⟩=some ⟨false,6,1⟩:=by unfold divR iM;rw[pJ (by simp) (by simp)];simp[lowR]
def m42:mulR ⟨false,7,1⟩ ⟨false,6,1⟩=some ⟨false,42,1⟩:=by rw[pJ (by simp) (by simp)];simp[lowR]
def Fd:cG bH [2,2] false (bs 6) (bs 1) 20=(0,{bat:=⟨false,6,1⟩,next:=11,fuel:=14,lead:=0,uses:=[⟨3,⟨false,42,1⟩,true,false⟩],works:=[]}):=by
 rw[jt m9 (lz 6 1 (by omega) (by omega) (by omega) rfl) (by simp),aU,aU];simp[ka,bH,bL,stepI,cg,In.rt,aU,m6,m42]
def Fe:cG bH [1,9] false (bs 6) (bs 1) 5=(0,{bat:=⟨false,6,1⟩,next:=11,fuel:=0,lead:=0,uses:=[⟨3,⟨false,42,1⟩,true,false⟩],works:=[]}):=by
 rw[jt m9 (lz 6 1 (by omega) (by omega) (by omega) rfl) (by simp),aU,aU];simp[ka,bH,bL,stepI,cg,In.rt,aU,m6,m42]
def xh:(cG bH [1,9] false (bs 6) (bs 1) 4).1=170:=by
 rw[jt m9 (lz 6 1 (by omega) (by omega) (by omega) rfl) (by simp),aU,aU];simp[ka,bH,bL,stepI,cg,In.rt,aU,m6,m42]
def ck(op:Int):List In:=[⟨op,0,0,false,e0,e0⟩]
def sJ{op:Int}(h:op=7\/op=8):eN (ck op):=by
 refine⟨by simp[ck],by simp[ck],fun i x hx=>?_,fun x hx=>?_⟩
 ·have hi:i<1:=by
   have:=(NQ.1 hx).1;simpa[ck]using this
  obtain rfl:i=0:=by omega
  simp[ck]at hx;subst hx;rcases h with rfl|rfl <;> simp[bD]
 ·simp[ck]at hx;subst hx;exact h
def sK:bN false (bs 1) (bs 1):=lz 1 1 (by omega) (by omega) (by omega) rfl
def Ff:cG (ck 7) [0] false (bs 1) (bs 1) 1=(0,{bat:=⟨false,0,1⟩,next:=1,fuel:=0,lead:=0,uses:=[],works:=[]}):=by
 rw[jt (sJ (.inl rfl)) sK (by simp),aU];simp[ka,ck,bL,stepI]
def xj:cG (ck 7) [] false (bs 1) (bs 1) 1=(1,bL 0):=pj (sJ (.inl rfl)) sK (.inr (.inl rfl))
def xm:(cG (ck 8) [0] false (bs 1) (bs 1) 1).1=160:=by
 rw[jt (sJ (.inr rfl)) sK (by simp),aU];simp[ka,ck,bL,stepI]
def Fg:iQ bH=0:=rZ m9
def Fh:iQ []=171:=mU (fun h=>by have:=h.1;simp at this)
def Fi{α:Type}(f:α->List Value)(k:Nat)(hk:∀a,(f a).length=k)(w:World)(l:List α)(t):RowC (w.alloc (.cells (l.flatMap f).toArray t)) k (.slice w.heap.size l.length l.length) (l.map f):=
 RowC.of_blk (Blk.new w _ t) _ (by rw[List.flatMap_def]) (fun c hc=>by obtain⟨a,_,rfl⟩:=OE.1 hc;exact hk a) (by rw[N6]) _ (No _)
class ek(w W:World)(A:Prop)(B:outParam Prop):Prop where
 go:eB w W->A->B
instance{w W:World}{A B C D:Prop}[k:ek w W A B][l:ek w W C D]:ek w W (A/\C) (B/\D):=⟨fun hb h=>⟨k.go hb h.1,l.go hb h.2⟩⟩
instance{u w W:World}:ek w W (eB u w) (eB u W):=⟨fun hb h=>h.trans (hb.mono h.size)⟩
instance{w W:World}:ek w W (Tab w) (Tab W):=⟨fun hb h=>h.below hb⟩
instance{w W:World}{b:Nat}{l:List Value}{t:TypeId}:ek w W (Blk w b l t) (Blk W b l t):=⟨fun hb h=>h.below hb h.lt⟩
instance{w W:World}{k:Nat}{v:Value}{L:List (List Value)}:ek w W (RowC w k v L) (RowC W k v L):=⟨fun hb h=>h.below hb⟩
def keep{w W}{A B:Prop}(hb:eB w W)(h:Hid A)[k:ek w W A B]:Hid B:=k.go hb h
def gE{w W}{A B G:Prop}(hb:eB w W)(h:Hid A)(g:G)[k:ek w W A B]:Hid (G/\B):=⟨g,k.go hb h⟩
def de{w W:World}{o:Obj}{A B G:Prop}(e:w.alloc o=W)(h:Hid A)(g:G)[k:ek w W A B]:Hid (G/\B):=⟨g,k.go (by rw[<-e];exact(NB _ _).alloc (No _) _) h⟩
def OR{α:Type}(f:α->List Value)(k:Nat)(hk:∀a,(f a).length=k){w W:World}(l:List α)(t)(e:w.alloc (.cells (l.flatMap f).toArray t)=W):RowC W k (.slice w.heap.size l.length l.length) (l.map f):=e▸Fi f k hk w l t
def kh{w W:World}(c:List Value)(t)(e:w.alloc (.cells c.toArray t)=W):Blk W w.heap.size c t:=e▸Blk.new w c t
theorem MU{a b:Bool}(ha:a=true)(hb:b=true):(a&&b)=true:=by rw[ha,hb];rfl
def closedRcp:joinedFacts prog 3 Tryz.f3 (Rows.OpenSpec.upto Rows.machineRecipeSpec).bare Rows.machineRecipeUptoRow=true:=by
 unfold joinedFacts;repeat' with_reducible refine MU ?_ ?_
 all_goals as_aux_lemma=>kernel_rfl
def goesRcp:false=Rows.machineRecipeUptoRow.goesBy prog:=by kernel_rfl
end Go.Proofs.YtgbbhcbkldhjiaaGreatDoor
