/- MachineRecipe: steps and contracts that its proof leans on. -/
import Derived.Test.YtgbbhcbkldhjiaaGreatDoorProg
import Derived.WalkKit
import Derived.WalkSpells
import Derived.Outline
import Derived.Deep.OwnRows
import Derived.Lib.Hide
import Derived.RegionTactic
import Derived.BigRegion
import Derived.BigQuiet
import Derived.Deep.QuietTactic
import Derived.Laws.BitsAllLaws
import Derived.Laws.BitsLemmas
import Derived.Laws.Bits64b
import Derived.OwnWalk
import Derived.Laws.IdiomStrings
import Derived.Laws.BytesArg
import Derived.Maps.AppendAt
import Derived.Shelf.Spec.BitsCarry
import Derived.Deep.RegionHeld3
import Derived.Deep.DrawnRows
import Derived.Deep.RegionWith
import Derived.Lib.Mul64
import Derived.Shelf.Strconv.Itoa0
import Derived.Lib.BitFns
import Derived.Lib.TrailingZeros
import Derived.Lib.ItoaNum
import Derived.Below
import Derived.Laws.OwnMore
import Derived.Deep.AppendLies
import Derived.Deep.Draws
import Derived.Deep.LoopGhost
import Derived.Deep.CutBlock
import Derived.Deep.DeepCutAuto
import Derived.RangeFuncNested
import Derived.RangeFuncBound
import Derived.RangeFuncCalls
import Derived.RangeFuncLeaves
import Derived.OwnWalkIn
import Derived.TacticsInMore
import Derived.LoopNIn
import Derived.LoopIn
import Derived.RangeFuncFrom
import Derived.OrdersIn
import Derived.Laws.CopyOwn
import Derived.Recover
import Derived.Defers
import Derived.WalkLawsBesides
import Derived.MapKept
import Derived.RangeFuncRecord
import Derived.Laws.StructEq
import Derived.Deep.MidRow
import Derived.Deep.WholeRow
import Derived.StillTailTactics
set_option linter.all false
set_option maxRecDepth 100000
set_option maxHeartbeats 16000000
namespace Go.Proofs.YtgbbhcbkldhjiaaGreatDoor
open Go.Proofs.Tryz
section
open Go Go.RowKit
abbrev MZ:=@List.cons_append
abbrev M6:=@List.length_cons
abbrev M7:=@Nat.pow_succ
abbrev M8:=@Nat.mul_comm
abbrev M9:=@List.nil_append
abbrev Na:=@Nat.add_zero
abbrev Nb:=@List.eq_nil_of_length_eq_zero
abbrev Nc:=@Nat.eq_zero_or_pos
abbrev Nd:=@Nat.mul_le_mul_right
abbrev Nf:=@Nat.lt_of_lt_of_le
abbrev Ng:=@Nat.pow_le_pow_right
abbrev Nh:=@Nat.lt_or_ge
abbrev Ni:=@Nat.mod_lt
abbrev Nj:=@Nat.div_eq_of_lt
abbrev Nk:=@Nat.mod_eq_of_lt
abbrev Nl:=@Nat.div_lt_iff_lt_mul
abbrev Nm:=@Nat.zero_add
abbrev Nn:=@Nat.pow_add
abbrev No:=@Nat.le_refl
abbrev Np:=@Bool.true_and
abbrev Nq:=@Nat.div_div_eq_div_mul
abbrev Nr:=@Nat.div_add_mod
abbrev Nt:=@Nat.lt_of_le_of_lt
abbrev Nu:=@Nat.zero_le
abbrev Nv:=@Nat.le_trans
abbrev Nw:=@Nat.mul_le_mul_left
abbrev Nx:=@List.getElem?_eq_getElem
abbrev Ny:=@List.take_of_length_le
abbrev Nz:=@List.length_take
abbrev NA:=@IntKind.wrap_u64
abbrev NB:=@Below.refl
abbrev NC:=@IntKind.wrap_i64
abbrev ND:=@List.length_nil
abbrev NE:=@Exit.noGoto_ret
abbrev NF:=@Below.heap_setCell
abbrev NG:=@Int.natCast_mul
abbrev NH:=@Nat.div_le_self
abbrev NI:=@Int.toNat_natCast
abbrev NJ:=@World.cell?_alloc_lt
abbrev NK:=@World.cell?_setCell_other
abbrev NL:=@World.cell?_of_block
abbrev NM:=@Sem.run_bind
abbrev NN:=@Sem.run_pure
abbrev NO:=@Result.andThen_ok
abbrev NP:=@List.map_cons
abbrev NQ:=@List.getElem?_eq_some_iff
abbrev NR:=@List.getElem?_take
abbrev NS:=@Nat.le_of_lt
abbrev NT:=@Below.heap_alloc
abbrev NU:=@World.size_alloc
abbrev NV:=@List.size_toArray
abbrev NW:=@World.frozen?_of_block
abbrev NX:=@Array.getElem?_eq_some_iff
abbrev NY:=@List.setIfInBounds_toArray
abbrev NZ:=@Array.replicate_succ
abbrev N0:=@Array.replicate_zero
abbrev N1:=@List.push_toArray
abbrev N2:=@List.append_toArray
abbrev N3:=@List.take_zero
abbrev N4:=@List.getElem?_append_left
abbrev N5:=@List.getElem?_append_right
abbrev N6:=@List.length_map
abbrev N7:=@List.length_range
abbrev N8:=@World.alloc_heap_new
abbrev N9:=@List.map_append
abbrev Oa:=@KeepsOthers.setCell
abbrev Ob:=@Bool.and_eq_true
abbrev Oi:=@List.mem_singleton
abbrev OM:=@World.putObj_heap_other
abbrev ON:=@World.grownBy_alloc
abbrev OJ:=@List.getElem?_eq_none
abbrev Ox:=@List.take_add_one
abbrev Oj:=@List.getElem?_cons_zero
abbrev Ok:=@List.getElem?_cons_succ
end
section
open Go Go.RowKit
theorem MY {p:Prop} (h:p) : Hid p:=h
instance : Coe Nat (Option Addr):=⟨fun b=>some ⟨b,0,none⟩⟩
abbrev eB (w : World):=Below w.heap.size w
theorem nT (x : Bool) (w : World):(Op.unary .not (.bool x)).run prog w=.ok (.bool (!x)) w:=rfl
theorem mF (fn : Fn) (first cap : Array Value) (w : World):(Instr.makeFunc fn first cap).run prog w=.ok (.func fn first cap) w:=rfl
end
namespace Bf
def eK:List UInt8->Nat
 |[]=>0
 |c::t=>c.toNat+256*eK t
def dC(l:List UInt8):Nat:=eK l.reverse
def vj(a b:List UInt8):eK (a++b)=eK a+256^a.length*eK b:=by
 induction a with
 |nil=>simp[eK]
 |cons c t ih=>simp only[MZ,eK,ih,M6,M7,Nat.mul_add];rw[M8 (256^t.length) 256,Nat.mul_assoc];omega
def vk(l:List UInt8):eK l<256^l.length:=by
 induction l with
 |nil=>simp[eK]
 |cons c t ih=>
  simp only[eK,M6,M7]
  have:=c.toNat_lt
  omega
def vm(l:List UInt8)(c:UInt8):dC (l++[c])=256*dC l+c.toNat:=by
 simp only[dC,List.reverse_append,List.reverse_cons,List.reverse_nil,M9,MZ,eK];omega
def oJ(l:List UInt8):dC l<256^l.length:=by
 have:=vk l.reverse;simpa[dC]using this
def BI(c:UInt8)(l:List UInt8):dC (c::l)=c.toNat*256^l.length+dC l:=by
 simp only[dC,List.reverse_cons,vj,eK,List.length_reverse];rw[Nat.mul_zero,Na,M8];omega
def jl:Nat->Nat->List UInt8
 |0,_=>[]
 |f+1,n=>if n=0 then []else jl f (n/256)++[UInt8.ofNat (n%256)]
def benc(n:Nat):List UInt8:=jl n n
def BJ(n:Nat):∀f g,n<=f->n<=g->jl f n=jl g n:=by
 induction n using Nat.strongRecOn with
 |ind n ih=>
  intro f g hf hg
  by_cases h:n=0
  ·subst h;cases f <;> cases g <;> simp[jl]
  ·obtain⟨f,rfl⟩:∃k,f=k+1:=⟨f-1,by omega⟩
   obtain⟨g,rfl⟩:∃k,g=k+1:=⟨g-1,by omega⟩
   simp only[jl,if_neg h]
   rw[ih (n/256) (by omega) f g (by omega) (by omega)]
def rz:benc 0=[]:=rfl
def rA{n:Nat}(h:n≠0):benc n=benc (n/256)++[UInt8.ofNat (n%256)]:=by
 obtain⟨k,rfl⟩:∃k,n=k+1:=⟨n-1,by omega⟩
 show jl (k+1) (k+1)=_;rw[jl,if_neg h];unfold benc;rw[BJ _ k ((k+1)/256) (by omega) (by omega)]
def vq(x c:Nat)(hc:c<256)(h:x≠0\/c≠0):benc (256*x+c)=benc x++[UInt8.ofNat c]:=by
 rw[rA (by omega)];have h1:(256*x+c)/256=x:=by omega
 have h2:(256*x+c)%256=c:=by omega
 rw[h1,h2]
def kV(n:Nat):dC (benc n)=n:=by
 induction n using Nat.strongRecOn with
 |ind n ih=>
  by_cases h:n=0
  ·subst h;rfl
  ·rw[rA h,vm,ih _ (by omega)]
   have:(UInt8.ofNat (n%256)).toNat=n%256:=by
    rw[UInt8.toNat_ofNat'];omega
   rw[this];omega
def rB{n:Nat}:benc n=[]<->n=0:=by
 constructor
 ·intro h;have:=kV n;rw[h]at this;exact this.symm
 ·rintro rfl;rfl
def eL(l:List UInt8):Prop:=l.head?≠some 0
instance(l:List UInt8):Decidable (eL l):=inferInstanceAs (Decidable (_≠_))
def vr(n:Nat):eL (benc n):=by
 induction n using Nat.strongRecOn with
 |ind n ih=>
  by_cases h:n=0
  ·subst h;simp[rz,eL]
  ·rw[rA h]
   by_cases h2:n/256=0
   ·rw[h2,rz]
    simp only[eL,M9,List.head?_cons,ne_eq,Option.some.injEq]
    intro e
    have e2:=congrArg UInt8.toNat e
    rw[UInt8.toNat_ofNat']at e2
    simp at e2
    omega
   ·have ab:benc (n/256)≠[]:=fun e=>h2 (rB.1 e)
    have:=ih (n/256) (by omega)
    unfold eL at *
    rw[List.head?_append]
    cases hb:benc (n/256)with
    |nil=>exact absurd hb ab
    |cons c t=>rw[hb]at this;simpa using this
def BL{l:List UInt8}{c:UInt8}(h:eL (l++[c])):eL l:=by
 cases l with
 |nil=>simp[eL]
 |cons d t=>simpa[eL]using h
def BM{l:List UInt8}(h:eL l):benc (dC l)=l:=by
 induction hn:l.length generalizing l with
 |zero=>rw[Nb hn];rfl
 |succ k ih=>
  rcases List.eq_nil_or_concat l with rfl|⟨t,c,rfl⟩
  ·simp at hn
  ·rw[List.concat_eq_append]at *
   have ht:t.length=k:=by simpa using hn
   have ab:=BL h
   have ac:=ih ab ht
   rw[vm]
   have hc:c.toNat<256:=c.toNat_lt
   rw[vq _ _ hc,ac]
   ·congr 2
    simp
   ·by_cases hb:dC t=0
    ·right
     rw[hb,rz]at ac
     subst ac
     simp only[eL,M9,List.head?_cons,ne_eq,Option.some.injEq]at h
     intro e
     apply h
     apply UInt8.toNat_inj.1
     simpa using e
    ·exact Or.inl hb
def BN{a b:Nat}(h:benc a=benc b):a=b:=by rw[<-kV a,<-kV b,h]
def vt{c:UInt8}{l:List UInt8}(h:eL (c::l)):256^l.length<=dC (c::l):=by
 rw[BI];have:1<=c.toNat:=by
  rcases Nc c.toNat with e|e
  ·exfalso;apply h;simp;apply UInt8.toNat_inj.1;simpa using e
  ·exact e
 have h2:1*256^l.length<=c.toNat*256^l.length:=Nd _ this;omega
def rD{n k:Nat}:(benc n).length<=k<->n<256^k:=by
 constructor
 ·intro h;have h1:=oJ (benc n);rw[kV]at h1;exact Nf h1 (Ng (by omega) h)
 ·intro h;rcases Nh k (benc n).length with ab|ac
  ·exfalso;have hc:=vr n;have hv:=kV n
   cases hb:benc n with
   |nil=>rw[hb]at ab;simp at ab
   |cons c t=>
    rw[hb]at hc hv ab
    have:=vt hc
    rw[hv]at this
    have hk:k<=t.length:=by simp at ab;omega
    have:=Ng (n:=256) (by omega) hk
    omega
  ·exact ac
def word(V j:Nat):Nat:=V/18446744073709551616^j%18446744073709551616
def aO(f:Nat->Nat):Nat->Nat
 |0=>0
 |n+1=>aO f n+f n*18446744073709551616^n
def ft(j:Nat):0<18446744073709551616^j:=Nat.pow_pos (by omega)
def rE(j:Nat):18446744073709551616^(j+1)=18446744073709551616*18446744073709551616^j:=by rw[M7,M8]
def dD(V j:Nat):word V j<18446744073709551616:=Ni _ (by omega)
def jT(V:Nat):word V 0=V%18446744073709551616:=by simp[word]
def oK{V j:Nat}(h:V<18446744073709551616^j):word V j=0:=by unfold word;rw[Nj h]
def oL{V j:Nat}(h:V<18446744073709551616^(j+1)):word V j=V/18446744073709551616^j:=by
 unfold word;rw[Nk];rw[Nl (ft j)];rw[rE]at h;exact h
def rF{f:Nat->Nat}:∀{n:Nat},(∀j,j<n->f j<18446744073709551616)->aO f n<18446744073709551616^n
 |0,_=>by simp[aO]
 |n+1,h=>by
  have ih:=rF (n:=n) (fun j hj=>h j (by omega));have hn:=h n (by omega);rw[aO,rE];have:(f n+1)*18446744073709551616^n<=18446744073709551616*18446744073709551616^n:=Nd _ hn;rw[Nat.add_mul]at this;omega
def rG{f g:Nat->Nat}:∀{n:Nat},(∀j,j<n->f j=g j)->aO f n=aO g n
 |0,_=>rfl
 |n+1,h=>by rw[aO,aO,rG (fun j hj=>h j (by omega)),h n (by omega)]
def vu(V:Nat):∀n,aO (word V) n=V%18446744073709551616^n
 |0=>by simp[aO,Nat.mod_one]
 |n+1=>by
  rw[aO,vu V n,word,M7,Nat.mod_mul,M8 (18446744073709551616^n)]
def kW{V n:Nat}(h:V<18446744073709551616^n):aO (word V) n=V:=by rw[vu,Nk h]
def vv{f:Nat->Nat}:∀{n:Nat},(∀j,j<n->f j<18446744073709551616)->∀j,j<n->word (aO f n) j=f j
 |0,_,j,hj=>by omega
 |n+1,h,j,hj=>by
  have hl:=rF (n:=n) (fun j hj=>h j (by omega));rw[aO];by_cases ab:j=n
  ·subst ab;unfold word;rw[Nat.add_mul_div_right _ _ (ft j),Nj hl,Nm,Nk (h j (by omega))]
  ·have ac:j<n:=by omega
   have ih:=vv (n:=n) (fun j hj=>h j (by omega)) j ac;rw[<-ih];obtain⟨d,rfl⟩:∃d,n=j+1+d:=⟨n-j-1,by omega⟩
   unfold word;have e:f (j+1+d)*18446744073709551616^(j+1+d)=(f (j+1+d)*18446744073709551616^d*18446744073709551616)*18446744073709551616^j:=by
    rw[Nn,Nn];grind
   rw[e,Nat.add_mul_div_right _ _ (ft j),Nat.add_mul_mod_self_right]
def upd(f:Nat->Nat)(i x:Nat):Nat->Nat:=fun j=>if j=i then x else f j
def mG(f:Nat->Nat)(i x:Nat):upd f i x i=x:=by simp[upd]
def jm(f:Nat->Nat){i j:Nat}(x:Nat)(h:j≠i):upd f i x j=f j:=by simp[upd,h]
def BO(f:Nat->Nat)(i x:Nat):∀n,n<=i->aO (upd f i x) n=aO f n:=fun n h=>rG fun j hj=>jm f x (by omega)
def rI(f:Nat->Nat)(i x:Nat):∀n,i<n->aO (upd f i x) n+f i*18446744073709551616^i=aO f n+x*18446744073709551616^i
 |0,h=>by omega
 |n+1,h=>by
  rw[aO,aO];by_cases e:i=n
  ·subst e;rw[BO f i x i (No _),mG];omega
  ·have:=rI f i x n (by omega);rw[jm f x (fun h=>e h.symm)];omega
def bz(n V:Nat):Prop:=V<18446744073709551616^n/\(n=0\/18446744073709551616^(n-1)<=V)
def bz.zero:bz 0 0:=⟨by simp,.inl rfl⟩
def iJ{n V:Nat}(h:bz n V):n=0<->V=0:=by
 obtain⟨h1,h2⟩:=h;constructor
 ·rintro rfl;simpa using h1
 ·rintro rfl;rcases h2 with h2|h2
  ·exact h2
  ·have:=ft (n-1);omega
def oM{n m V U:Nat}(h:bz n V)(h':bz m U)(ab:n<m):V<U:=by
 obtain⟨h1,_⟩:=h;obtain⟨_,h2⟩:=h';rcases h2 with h2|h2
 ·omega
 ·have:=Ng (n:=18446744073709551616) (by omega) (show n<=m-1 by omega);omega
def BP{n V:Nat}(h:bz (n+1) V):0<word V n:=by
 obtain⟨h1,h2⟩:=h;rw[oL h1];rcases h2 with h2|h2
 ·omega
 ·exact Nat.div_pos (by simpa using h2) (ft n)
def BQ{n V:Nat}(h1:V<18446744073709551616^(n+1))(h2:word V n≠0):bz (n+1) V:=by
 refine⟨h1,.inr ?_⟩;rw[oL h1]at h2;rcases Nh V (18446744073709551616^n)with h|h
 ·exact absurd (Nj h) h2
 ·simpa using h
def BR{n V:Nat}(h1:V<18446744073709551616^(n+1))(h2:word V n=0):V<18446744073709551616^n:=by
 rw[oL h1]at h2;rcases Nh V (18446744073709551616^n)with h|h
 ·exact h
 ·have:=Nat.div_pos h (ft n);omega
def BS{V U:Nat}:∀{n:Nat},V<18446744073709551616^n->U<18446744073709551616^n->(∀j,j<n->word V j=word U j)->V=U
 |n,h1,h2,h=>by rw[<-kW h1,<-kW h2];exact rG h
def vw{V U i n:Nat}(h1:V<18446744073709551616^n)(h2:U<18446744073709551616^n)(hi:i<n)(he:∀j,i<j->j<n->word V j=word U j)(hl:word V i<word U i):V<U:=by
 have key:∀m,i<m->m<=n->aO (word V) m<aO (word U) m:=by
  intro m;induction m with
  |zero=>intro h;omega
  |succ m ih=>
   intro ab ac
   rw[aO,aO]
   by_cases e:i=m
   ·subst e
    have hb:=rF (f:=word V) (n:=i) (fun j _=>dD V j)
    have:(word V i+1)*18446744073709551616^i<=word U i*18446744073709551616^i:=Nd _ hl
    rw[Nat.add_mul]at this
    omega
   ·have:=ih (by omega) (by omega)
    rw[he m (by omega) (by omega)];omega
 have:=key n hi (No _);rwa[kW h1,kW h2]at this
def fu(j:Nat):18446744073709551616^j=2^(64*j):=by rw[Nat.pow_mul]
def mH(j:Nat):256^j=2^(8*j):=by rw[Nat.pow_mul]
def dE(V j b:Nat):(word V j).testBit b=(decide (b<64)&&V.testBit (64*j+b)):=by
 unfold word;rw[show(18446744073709551616:Nat)=2^64 from rfl,<-Nat.pow_mul,Nat.testBit_mod_two_pow,Nat.testBit_div_two_pow,Nat.add_comm]
def rJ{V c k b:Nat}(h:V<2^k):(V+c*2^k).testBit b=if b<k then V.testBit b else c.testBit (b-k):=by
 rw[Nat.add_comm,M8,Nat.testBit_two_pow_mul_add c h b]
def vx{V k c:Nat}(hV:V<256^k)(hc:c<256)(j:Nat) :word (V+c*256^k) j=if j=k/8 then word V j |||(c <<< (8*(k%8)))else word V j:=by
 rw[mH]at *;have ac:∀b,8<=b->c.testBit b=false:=fun b hb=>Nat.testBit_lt_two_pow (Nf hc (Ng (n:=2) (by omega) hb));have ab:∀b,8*k<=b->V.testBit b=false:=fun b hb=>Nat.testBit_lt_two_pow (Nf hV (Ng (n:=2) (by omega) hb));apply Nat.eq_of_testBit_eq;intro b;rw[dE,rJ hV];by_cases hj:j=k/8
 ·rw[if_pos hj,Nat.testBit_or,dE,Nat.testBit_shiftLeft];by_cases hb:b<64
  ·by_cases h1:64*j+b<8*k
   ·have h2:¬b>=8*(k%8):=by omega
    simp[hb,h1,h2]
   ·have h2:b>=8*(k%8):=by omega
    have h3:64*j+b-8*k=b-8*(k%8):=by omega
    rw[ab _ (by omega)];simp[hb,h1,h2,h3]
  ·have h2:c.testBit (b-8*(k%8))=false:=ac _ (by omega);simp[hb,h2]
 ·rw[if_neg hj,dE];by_cases hb:b<64
  ·by_cases h1:64*j+b<8*k
   ·simp[hb,h1]
   ·have h2:c.testBit (64*j+b-8*k)=false:=ac _ (by omega);rw[ab _ (by omega)];simp[h1,h2]
  ·simp[hb]
def BU(V i:Nat):(word V (i/8) >>> (8*(i%8)))%256=V/256^i%256:=by
 apply Nat.eq_of_testBit_eq;intro b;rw[show(256:Nat)=2^8 from rfl,<-Nat.pow_mul,Nat.testBit_mod_two_pow,Nat.testBit_mod_two_pow,Nat.testBit_shiftRight,dE,Nat.testBit_div_two_pow];by_cases hb:b<8
 ·have h1:8*(i%8)+b<64:=by omega
  have h2:64*(i/8)+(8*(i%8)+b)=b+8*i:=by omega
  simp[hb,h1,h2]
 ·simp[hb]
def BV(V ab i:Nat):word (V/2^ab) i=(word V (i+ab/64) >>> (ab%64)) |||((word V (i+ab/64+1) <<< (64-ab%64))%18446744073709551616):=by
 apply Nat.eq_of_testBit_eq;intro b;rw[show(18446744073709551616:Nat)=2^64 from rfl,Nat.testBit_or,Nat.testBit_mod_two_pow,Nat.testBit_shiftRight,Nat.testBit_shiftLeft,dE,dE,dE,Nat.testBit_div_two_pow];by_cases hb:b<64
 ·by_cases h1:ab%64+b<64
  ·have h2:64*(i+ab/64)+(ab%64+b)=64*i+b+ab:=by omega
   have h3:¬b>=64-ab%64:=by omega
   simp only[hb,h1,h2,decide_true,Np,h3,decide_false,Bool.false_and,Bool.or_false]
  ·have h2:b>=64-ab%64:=by omega
   have h3:64*(i+ab/64+1)+(b-(64-ab%64))=64*i+b+ab:=by omega
   have h4:b-(64-ab%64)<64:=by omega
   simp only[hb,h1,h2,h3,h4,decide_true,Np,decide_false,Bool.false_and,Bool.false_or]
 ·have h1:¬ab%64+b<64:=by omega
  simp[hb,h1]
def BX{s b:Nat->Nat}{N i j x S high s' ab:Nat}(hj:i+j<N)(h:aO s N+high*18446744073709551616^(i+j)=S+x*aO b j*18446744073709551616^i)(hs:s'+ab*18446744073709551616=x*b j+s (i+j)+high) :aO (upd s (i+j) s') N+ab*18446744073709551616^(i+(j+1))=S+x*aO b (j+1)*18446744073709551616^i:=by
 have h1:=rI s (i+j) s' N hj;have h2:18446744073709551616^(i+(j+1))=18446744073709551616*18446744073709551616^(i+j):=by rw[<-Nat.add_assoc,rE]
 have h3:18446744073709551616^(i+j)=18446744073709551616^i*18446744073709551616^j:=Nn _ _ _;rw[h2,aO];rw[h3]at h h1⊢;grind
def BY{s a:Nat->Nat}{N i m B high:Nat}(hm:i+m<N)(hz:s (i+m)=0)(h:aO s N+high*18446744073709551616^(i+m)=aO a i*B+a i*B*18446744073709551616^i) :aO (upd s (i+m) high) N=aO a (i+1)*B:=by
 have h1:=rI s (i+m) high N hm;rw[hz]at h1;rw[aO];grind
def BZ{V b i:Nat}(hb:0<b) :((V/18446744073709551616^(i+1))%b*18446744073709551616+word V i)/b=word (V/b) i/\((V/18446744073709551616^(i+1))%b*18446744073709551616+word V i)%b=(V/18446744073709551616^i)%b:=by
 have hT:V/18446744073709551616^i=V/18446744073709551616^(i+1)*18446744073709551616+word V i:=by
  unfold word;rw[M7,<-Nq];omega
 have hw:=dD V i;generalize word V i=a at *;generalize hX:V/18446744073709551616^(i+1)=X at *;have ab:word (V/b) i=(V/18446744073709551616^i/b)%18446744073709551616:=by
  unfold word;rw[Nq,M8,<-Nq]
 rw[ab,hT];have e:X*18446744073709551616+a=(X%b*18446744073709551616+a)+b*(X/b*18446744073709551616):=by
  have:=Nr X b;grind
 rw[e,Nat.add_mul_div_left _ _ hb,Nat.add_mul_mod_self_left];refine⟨?_,rfl⟩;have ac:(X%b*18446744073709551616+a)/b<18446744073709551616:=by
  rw[Nl hb];have h1:X%b+1<=b:=Ni _ hb;have h2:(X%b+1)*18446744073709551616<=b*18446744073709551616:=Nd _ h1;omega
 rw[Nat.add_mul_mod_self_right,Nk ac]
def Ca{V b i:Nat}(hb:0<b) :(if b<=2*((V/2^(i+1))%b)+V/2^i%2 then 2*((V/2^(i+1))%b)+V/2^i%2-b=(V/2^i)%b/\V/b/2^i=2*(V/b/2^(i+1))+1 else 2*((V/2^(i+1))%b)+V/2^i%2=(V/2^i)%b/\V/b/2^i=2*(V/b/2^(i+1))):=by
 have hT:V/2^i=V/2^(i+1)*2+V/2^i%2:=by
  rw[M7,<-Nq];omega
 have hd:∀k,V/b/2^k=V/2^k/b:=fun k=>by rw[Nq,M8,<-Nq]
 rw[hd,hd];have ht:V/2^i%2<2:=Ni _ (by omega);generalize V/2^i%2=t at *;generalize V/2^(i+1)=X at *;generalize V/2^i=Y at *;subst hT;have hX:=Nr X b;have hr:=Ni X hb;generalize X/b=Q at *;generalize X%b=R at *;have e:X*2+t=(2*R+t)+b*(2*Q):=by grind
 rw[e];by_cases hc:b<=2*R+t
 ·rw[if_pos hc];have e2:2*R+t+b*(2*Q)=(2*R+t-b)+b*(2*Q+1):=by
   rw[Nat.mul_add];omega
  rw[e2,Nat.add_mul_div_left _ _ hb,Nat.add_mul_mod_self_left,Nk (by omega),Nj (by omega)];omega
 ·rw[if_neg hc,Nat.add_mul_div_left _ _ hb,Nat.add_mul_mod_self_left,Nk (by omega),Nj (by omega)];omega
def rK{a b k:Nat}(ha:a%2=1):Nat.gcd a (2^k*b)=Nat.gcd a b:=by
 apply Nat.Coprime.gcd_mul_left_cancel_right;apply Nat.Coprime.pow_left;unfold Nat.Coprime;rw[Nat.gcd_rec];simp[ha]
def Cb{a b i j:Nat}(ha:a%2=1)(hb:b%2=1):Nat.gcd (2^i*a) (2^j*b)=2^min i j*Nat.gcd a b:=by
 rcases Nat.le_total i j with h|h
 ·obtain⟨d,rfl⟩:∃d,j=i+d:=⟨j-i,by omega⟩
  rw[Nat.min_eq_left h,Nn,Nat.mul_assoc,Nat.gcd_mul_left,rK ha]
 ·obtain⟨d,rfl⟩:∃d,i=j+d:=⟨i-j,by omega⟩
  rw[Nat.min_eq_right h,Nn,Nat.mul_assoc,Nat.gcd_mul_left,Nat.gcd_comm,rK hb,Nat.gcd_comm]
def Cc{a b:Nat}(h:b<=a):Nat.gcd (a-b) b=Nat.gcd a b:=Nat.gcd_sub_self_left h
def tzF:Nat->Nat->Nat
 |0,_=>0
 |f+1,n=>if n%2=1 then 0 else 1+tzF f (n/2)
def tz(n:Nat):Nat:=tzF n n
def vy:∀f n,0<n->n<=f->2^tzF f n*(n/2^tzF f n)=n/\(n/2^tzF f n)%2=1
 |0,n,h,hf=>by omega
 |f+1,n,h,hf=>by
  rw[tzF];split
  ·rename_i ho;simp[ho]
  ·rename_i ho;have ih:=vy f (n/2) (by omega) (by omega);rw[Nn,Nat.pow_one,<-Nq];refine⟨?_,ih.2⟩;rw[Nat.mul_assoc,ih.1];omega
def jU{n:Nat}(h:0<n):2^tz n*(n/2^tz n)=n/\(n/2^tz n)%2=1:=vy n n h (No _)
def vA{n k m:Nat}(h:n=2^k*m)(hm:m%2=1):tz n=k:=by
 have h2:0<2^k:=Nat.pow_pos (by omega);have hn:0<n:=by rw[h];exact Nat.mul_pos h2 (by omega)
 obtain⟨e,o⟩:=jU hn;generalize n/2^tz n=q at *;generalize tz n=t at *;rw[h]at e;rcases Nat.lt_trichotomy t k with ad|ab|ac
 ·obtain⟨d,rfl⟩:∃d,k=t+1+d:=⟨k-t-1,by omega⟩
  have:2^t*q=2^t*(2*(2^d*m)):=by rw[e,Nn,Nn];grind
  have:=Nat.eq_of_mul_eq_mul_left (Nat.pow_pos (by omega)) this;omega
 ·exact ab
 ·obtain⟨d,rfl⟩:∃d,t=k+1+d:=⟨t-k-1,by omega⟩
  have:2^k*m=2^k*(2*(2^d*q)):=by rw[<-e,Nn,Nn];grind
  have:=Nat.eq_of_mul_eq_mul_left h2 this;omega
def jn(u d y1 y0 q r:Nat):Prop:=u=q*y1+r/\(u*4294967296+d)/(y1*4294967296+y0)<=q
def vB{u d y1 y0:Nat}(h1:0<y1)(hd:d<4294967296):jn u d y1 y0 (u/y1) (u%y1):=by
 refine⟨by rw[M8];exact(Nr u y1).symm,?_⟩;have h2:(u*4294967296+d)/(y1*4294967296+y0)<=(u*4294967296+d)/(y1*4294967296):=Nat.div_le_div_left (by omega) (by omega);have h3:(u*4294967296+d)/(y1*4294967296)=u/y1:=by
  rw[M8 y1,<-Nq];congr 1;omega
 omega
def vE{u d y1 y0 q r:Nat}(hu:u<y1*4294967296+y0)(hd:d<4294967296)(h:jn u d y1 y0 q r)(ht:4294967296<=q\/4294967296*r+d<q*y0):1<=q/\jn u d y1 y0 (q-1) (r+y1):=by
 obtain⟨h2,h3⟩:=h;have hQ:(u*4294967296+d)/(y1*4294967296+y0)<q:=by
  rcases ht with ht|ht
  ·have:(u*4294967296+d)/(y1*4294967296+y0)<4294967296:=by
    rw[Nl (by omega)];have:(u+1)*4294967296<=(y1*4294967296+y0)*4294967296:=Nd _ hu;omega
   omega
  ·rw[Nl (by omega),h2];grind
 have hq:1<=q:=Nt (Nu _) hQ;refine⟨hq,?_,Nat.le_sub_one_of_lt hQ⟩;obtain⟨k,rfl⟩:∃k,q=k+1:=⟨q-1,(Nat.sub_add_cancel hq).symm⟩
 rw[h2];simp only[Nat.add_sub_cancel];grind
def oO{u d y1 y0 q r:Nat}(h1:0<y1)(h:jn u d y1 y0 q r)(ht:q*y0<=4294967296*r+d) :q=(u*4294967296+d)/(y1*4294967296+y0)/\u*4294967296+d-q*(y1*4294967296+y0)=(u*4294967296+d)%(y1*4294967296+y0)/\q*(y1*4294967296+y0)<=u*4294967296+d:=by
 obtain⟨h2,h3⟩:=h;have h4:q*(y1*4294967296+y0)<=u*4294967296+d:=by rw[h2];grind
 have h5:q<=(u*4294967296+d)/(y1*4294967296+y0):=(Nat.le_div_iff_mul_le (by omega)).2 h4;have h6:q=(u*4294967296+d)/(y1*4294967296+y0):=by omega
 refine⟨h6,?_,h4⟩;have:=Nr (u*4294967296+d) (y1*4294967296+y0);rw[<-h6,M8]at this;omega
def vF{u y1 y0:Nat}(h1:2147483648<=y1)(h0:y0<4294967296)(hu:u<y1*4294967296+y0):u/y1<=4294967297:=by
 have:u/y1<4294967298:=by rw[Nl (by omega)];omega
 omega
def Cd{X un0 Y:Nat}(hY:0<Y) :(X%Y*4294967296+un0)/Y+4294967296*(X/Y)=(X*4294967296+un0)/Y/\(X%Y*4294967296+un0)%Y=(X*4294967296+un0)%Y:=by
 have e:X*4294967296+un0=(X%Y*4294967296+un0)+Y*(4294967296*(X/Y)):=by
  have h:=Nr X Y;grind
 refine⟨?_,?_⟩
 ·rw[e,Nat.add_mul_div_left _ _ hY]
 ·rw[e,Nat.add_mul_mod_self_left]
def vG{N y s:Nat}:N*2^s/(y*2^s)=N/y/\N*2^s%(y*2^s)/2^s=N%y:=by
 have h:0<2^s:=Nat.pow_pos (by omega);refine⟨Nat.mul_div_mul_right _ _ h,?_⟩;rw[Nat.mul_mod_mul_right,Nat.mul_div_cancel _ h]
def wlen(V:Nat):Nat:=if V=0 then 0 else V.log2/64+1
def mJ(V:Nat):bz (wlen V) V:=by
 unfold wlen;by_cases h:V=0
 ·subst h;simp only[if_true];exact bz.zero
 ·rw[if_neg h];have h1:=Nat.lt_log2_self (n:=V);have h2:=Nat.log2_self_le h;refine⟨?_,.inr ?_⟩
  ·rw[fu];exact Nf h1 (Ng (by omega) (by omega))
  ·rw[fu];exact Nv (Ng (by omega) (by omega)) h2
def Ce{n m V:Nat}(h:bz n V)(h':bz m V):n=m:=by
 rcases Nat.lt_trichotomy n m with hl|he|hg
 ·exact absurd (oM h h' hl) (Nat.lt_irrefl _)
 ·exact he
 ·exact absurd (oM h' h hg) (Nat.lt_irrefl _)
def Cf{n V:Nat}(h:bz n V):wlen V=n:=Ce (mJ V) h
def mL{n V:Nat}(h:V<18446744073709551616^n):wlen V<=n:=by
 rcases Nh n (wlen V)with hl|hg
 ·exfalso;obtain⟨_,h2⟩:=mJ V;rcases h2 with h2|h2
  ·omega
  ·have:=Ng (n:=18446744073709551616) (by omega) (show n<=wlen V-1 by omega);omega
 ·exact hg
def bor(V U k:Nat):Nat:=if V%18446744073709551616^k<U%18446744073709551616^k then 1 else 0
def Cg(V U:Nat):bor V U 0=0:=by simp[bor,Nat.mod_one]
def Ch(V U k:Nat):bor V U k<=1:=by unfold bor;split <;> omega
def rL(V k:Nat):V%18446744073709551616^(k+1)=V%18446744073709551616^k+18446744073709551616^k*word V k:=by
 rw[M7,Nat.mod_mul];rfl
def Ci(V U k:Nat):bor V U (k+1)=if word V k<word U k+bor V U k then 1 else 0:=by
 have hp:=ft k;have h1:=Ni V hp;have h2:=Ni U hp;unfold bor;rw[rL,rL];generalize 18446744073709551616^k=P at *;generalize V%P=a at *;generalize U%P=b at *;generalize word V k=v at *;generalize word U k=u at *;by_cases ac:a<b
 ·rw[if_pos ac];by_cases ab:v<u+1
  ·rw[if_pos ab];have:P*v<=P*u:=Nw _ (by omega);rw[if_pos (by omega)]
  ·rw[if_neg ab];have:P*(u+1)<=P*v:=Nw _ (by omega);rw[Nat.mul_add]at this;rw[if_neg (by omega)]
 ·rw[if_neg ac];by_cases ab:v<u
  ·rw[if_pos (by omega:v<u+0)];have:P*(v+1)<=P*u:=Nw _ (by omega);rw[Nat.mul_add]at this;rw[if_pos (by omega)]
  ·rw[if_neg (by omega:¬v<u+0)];have:P*u<=P*v:=Nw _ (by omega);rw[if_neg (by omega)]
def Cj{V U:Nat}(h:U<=V)(k:Nat):(word V k+18446744073709551616-word U k-bor V U k)%18446744073709551616=word (V-U) k:=by
 have hp:=ft k;have e1:=Nr V (18446744073709551616^k);have e2:=Nr U (18446744073709551616^k);have l1:=Ni V hp;have l2:=Ni U hp;unfold bor word;generalize 18446744073709551616^k=P at *;generalize V%P=a at *;generalize U%P=b at *;have hd:(V-U)/P=V/P-U/P-(if a<b then 1 else 0):=by
  generalize V/P=x at *;generalize U/P=y at *;have ag:y+(if a<b then 1 else 0)<=x:=by
   rcases Nh x (y+(if a<b then 1 else 0))with ac|ad
   ·exfalso;by_cases ab:a<b
    ·rw[if_pos ab]at ac;have:P*x<=P*y:=Nw _ (by omega);omega
    ·rw[if_neg ab]at ac;have:P*(x+1)<=P*y:=Nw _ (by omega);rw[Nat.mul_add]at this;omega
   ·exact ad
  by_cases ab:a<b
  ·rw[if_pos ab]at *;obtain⟨t,rfl⟩:∃t,x=y+1+t:=⟨x-y-1,by omega⟩
   have:V-U=P*t+(P+a-b):=by rw[<-e1,<-e2,Nat.mul_add,Nat.mul_add];omega
   rw[this,Nat.mul_add_div (by omega),Nj (by omega)];omega
  ·rw[if_neg ab]at *;obtain⟨t,rfl⟩:∃t,x=y+t:=⟨x-y,by omega⟩
   have:V-U=P*t+(a-b):=by rw[<-e1,<-e2,Nat.mul_add];omega
   rw[this,Nat.mul_add_div (by omega),Nj (by omega)];omega
 have ag:U/P+(if a<b then 1 else 0)<=V/P:=by
  rcases Nh (V/P) (U/P+(if a<b then 1 else 0))with ac|ad
  ·exfalso;by_cases ab:a<b
   ·rw[if_pos ab]at ac;have:P*(V/P)<=P*(U/P):=Nw _ (by omega);omega
   ·rw[if_neg ab]at ac;have:P*(V/P+1)<=P*(U/P):=Nw _ (by omega);rw[Nat.mul_add]at this;omega
  ·exact ad
 rw[hd];have hq:(if a<b then 1 else 0)<=1:=by split <;> omega
 generalize (if a<b then 1 else 0)=q at *;generalize V/P=x at *;generalize U/P=y at *;omega
def rM{V:Nat}:∀{j:Nat},(∀i,i<j->word V i=0)->V%18446744073709551616^j=0
 |0,_=>by simp[Nat.mod_one]
 |j+1,h=>by rw[rL,rM (fun i hi=>h i (by omega)),h j (by omega),Nat.mul_zero]
def Ck{V j:Nat}(hz:∀i,i<j->word V i=0)(hj:word V j≠0):tz V=64*j+tz (word V j):=by
 obtain⟨e,o⟩:=jU (n:=word V j) (by omega);have ac:=dD V j;generalize hm:word V j/2^tz (word V j)=m at *;generalize ad:tz (word V j)=t at *;have ht:t<64:=by
  rcases Nh t 64 with h|h
  ·exact h
  ·exfalso;have h1:2^64<=2^t:=Ng (by omega) h;have h2:2^t*1<=2^t*m:=Nw _ (by omega);omega
 have hV:=Nr V (18446744073709551616^j);rw[rM hz,Na]at hV;have hq:V/18446744073709551616^j=18446744073709551616*(V/18446744073709551616^j/18446744073709551616)+word V j:=by
  unfold word;omega
 generalize V/18446744073709551616^j/18446744073709551616=q at *;apply vA (m:=2*(2^(63-t)*q)+m) _ (by omega);rw[<-hV,hq,<-e,fu,Nn];have ab:(18446744073709551616:Nat)=2^t*(2*2^(63-t)):=by
  rw[<-Nat.pow_succ',<-Nn,show t+(63-t).succ=64 from by omega]
 rw[ab];grind
def nbits(V:Nat):Nat:=if V=0 then 0 else V.log2+1
def oP{V:Nat}(h:V≠0):1<=nbits V/\2^(nbits V-1)<=V/\V<2^nbits V:=by
 unfold nbits;rw[if_neg h];exact⟨by omega,by simpa using Nat.log2_self_le h,Nat.lt_log2_self⟩
def Cl{V L:Nat}(h1:1<=L)(h2:2^(L-1)<=V)(h3:V<2^L):nbits V=L:=by
 have h0:V≠0:=by have:0<2^(L-1):=Nat.pow_pos (by omega);omega
 obtain⟨a,b,c⟩:=oP h0;rcases Nat.lt_trichotomy (nbits V) L with h|h|h
 ·have:=Ng (n:=2) (by omega) (show nbits V<=L-1 by omega);omega
 ·exact h
 ·have:=Ng (n:=2) (by omega) (show L<=nbits V-1 by omega);omega
def Cm{n V L:Nat}(h:V<18446744073709551616^(n+1))(h1:1<=L)(h2:2^(L-1)<=word V n)(h3:word V n<2^L):nbits V=64*n+L:=by
 rw[oL h]at *;have hp:=ft n;apply Cl (by omega)
 ·rw[show 64*n+L-1=64*n+(L-1)from by omega,Nn,<-fu,M8];exact(Nat.le_div_iff_mul_le hp).1 h2
 ·rw[Nn,<-fu,M8];exact(Nl hp).1 h3
def vH{V n:Nat}(h:V<2^n):nbits V<=n:=by
 by_cases h0:V=0
 ·simp[nbits,h0]
 ·obtain⟨a,b,_⟩:=oP h0;rcases Nh n (nbits V)with hl|hg
  ·have:=Ng (n:=2) (by omega) (show n<=nbits V-1 by omega);omega
  ·exact hg
def Cn{x:Nat}(h0:x≠0)(h:x<18446744073709551616):tz x<=64:=by
 obtain⟨e,o⟩:=jU (n:=x) (by omega);generalize x/2^tz x=m at *;generalize tz x=t at *;rcases Nh 64 t with h|h
 ·exfalso;have h1:2^64<=2^t:=Ng (by omega) (by omega);have h2:2^t*1<=2^t*m:=Nw _ (by omega);omega
 ·exact h
def nm{α:Sort _}(x:α):∃y,x=y:=⟨_,rfl⟩
def ix{k n:Nat}(h:k<n:=by omega):(0:Int)<=(k:Int)/\(k:Int)<(n:Int):=⟨by omega,by omega⟩
def gx{α:Type _}{l:List α}{i:Nat}(h:i<l.length:=by omega):∃x,l[i]? = some x:=⟨l[i],Nx h⟩
end Bf
section
open Go.RowKit Bf
def Wds(w:World)(b n V:Nat):Prop:=∀j,j<n->w.cell? ⟨b,j,none⟩=some (.int .u64 (word V j:Int))
def Row(w:World)(b N:Nat)(f:Nat->Nat):Prop:=∃cur:Array Value,w.heap[b]? = some (.cells cur 174 (0,0))/\N<=cur.size/\∀i,i<N->cur[i]? = some (.int .u64 (f i:Int))
section
variable {w w':World} {b N:Nat} {f g:Nat->Nat}
def Row.lt(h:Row w b N f):b<w.heap.size:=by
 obtain⟨cur,h1,_⟩:=h;rcases Nh b w.heap.size with hl|hg
 ·exact hl
 ·rw[Array.getElem?_eq_none hg]at h1;cases h1
def Row.cell(h:Row w b N f){i:Nat}(hi:i<N):w.cell? ⟨b,i,none⟩=some (.int .u64 (f i:Int)):=by
 obtain⟨cur,h1,_,h3⟩:=h;simp[World.cell?,h1,h3 i hi]
def Row.frozen(h:Row w b N f)(i:Nat):w.frozen? ⟨b,i,none⟩=false:=by
 obtain⟨cur,h1,_⟩:=h;simp[World.frozen?,h1]
def Row.congr(h:Row w b N f)(e:∀i,i<N->f i=g i):Row w b N g:=by
 obtain⟨cur,h1,h2,h3⟩:=h;exact⟨cur,h1,h2,fun i hi=>by rw[h3 i hi,e i hi]⟩
def Row.less{M:Nat}(h:Row w b N f)(hM:M<=N):Row w b M f:=by
 obtain⟨cur,h1,h2,h3⟩:=h;exact⟨cur,h1,by omega,fun i hi=>h3 i (by omega)⟩
def Row.of_block(h:Row w b N f)(e:w'.heap[b]? = w.heap[b]?):Row w' b N f:=by
 obtain⟨cur,h1,h2,h3⟩:=h;exact⟨cur,e.trans h1,h2,h3⟩
def Row.drew(h:Row w b N f):Row w.drew b N f:=h
def Row.drewN(h:Row w b N f)(n:Nat):Row (w.drewN n) b N f:=h
def Row.below{B:Nat}(h:Row w b N f)(hb:Below B w w')(hB:b<B):Row w' b N f:=h.of_block (hb.block b hB)
def Row.grown{row:Option Nat}(h:Row w b N f)(hg:w.grownBy w' row)(hr:some b≠row):Row w' b N f:=h.of_block (hg.block b h.lt hr)
def Row.set(h:Row w b N f)(i:Nat){x:Nat}(v:Int)(hv:v=(x:Int)):Row (w.setCell ⟨b,i,none⟩ (.int .u64 v)) b N (fun j=>if j=i then x else f j):=by
 subst hv;obtain⟨cur,h1,h2,h3⟩:=h;refine⟨cur.setIfInBounds i (.int .u64 (x:Int)),?_,by simpa using h2,fun j hj=>?_⟩
 ·simp[World.setCell,Array.getElem?_modify,h1]
 ·rw[Array.getElem?_setIfInBounds];by_cases e:i=j
  ·subst e;simp;omega
  ·have e':¬j=i:=fun h=>e h.symm;simp only[if_neg e,if_neg e'];exact h3 j hj
def Row.of_rowIs(h:w.rowIs b 174 N (fun j=> .int .u64 (f j:Int))):Row w b N f:=by
 obtain⟨cur,h1,h2,h3⟩:=h;exact⟨cur,h1,by omega,h3⟩
end
def lenOf:Value->Nat |.slice _ n _=>n|_=>0
def rN{P:Program}{t}(h:P.underlying t=some .string)(s:ByteArray)(i:Nat)(z:Int)(hz:z=(i:Int))(hi:i<s.size)(W) :(Instr.index t (.string s) (.int .i64 z)).run P W=.ok (.int .u8 (s[i]'hi).toNat) W:=by
 subst hz;have hx:s[i]? = some (s[i]'hi):=by simp
 simp[Instr.index,run_underlying h,asIntOf,hx]
def Row.wds{w}{b n V:Nat}(h:Row w b n (word V)):Wds w b n V:=fun _ hj=>h.cell hj
def vI(b n c V:Nat)(w)(hV:V<18446744073709551616^n)(hn:n<=9223372036854775807)(hc:n<=c)(h:Wds w b n V) :Calls prog 136 #[.slice b n c] w fun e w'=>e=.returned (.slice b (wlen V) c)/\w=w':=by
 have HV:=MY hV;have H:=MY h;clear h hV;go_enter func136,ntmps136;go_wp2;go_loop [0] (fun t=>∃k:Nat,k<=n/\Hid (V<18446744073709551616^k)/\t=.slice b k c) (fun t=>lenOf t)
 case atStart=>exact⟨n,No _,HV,rfl⟩
 case round=>
  obtain⟨k,hk,ab,rfl⟩:=hrel;by_cases h0:0<k
  ·have ac:=H.out (k-1) (by omega);go_wp2
   ·rename_i hz;refine⟨⟨k-1,by omega,?_,rfl⟩,by simp[lenOf];omega⟩;obtain⟨m,rfl⟩:∃m,k=m+1:=⟨k-1,by omega⟩
    exact BR ab.out (by simpa using hz)
   ·rename_i hz _;go_ret;refine⟨?_,rfl⟩;obtain⟨m,rfl⟩:∃m,k=m+1:=⟨k-1,by omega⟩
    rw[Cf (BQ ab.out (by simpa using hz))];rfl
  ·obtain rfl:k=0:=by omega
   go_wp2;go_ret;have hv:V=0:=by have:=ab.out;simpa using this
   subst hv;exact⟨rfl,rfl⟩
def vJ(b n c i:Nat)(x:Int)(w:World)(hi:i<n)(hc:w.cell? ⟨b,i,none⟩=some (.int .u64 x)) :Calls prog 135 #[.slice b n c,.int .i64 i] w fun e w'=>e=.returned (.int .u64 x)/\w=w':=by
 go_enter func135,ntmps135;go_wp2;go_ret;exact⟨rfl,rfl⟩
def vK(A)(n c i:Nat)(w)(hi:n<=i) :Calls prog 135 #[.slice A n c,.int .i64 i] w fun e w'=>e=.returned (.int .u64 0)/\w=w':=by
 go_enter func135,ntmps135;go_wp2;go_ret;exact⟨rfl,rfl⟩
def vL:(prog.info? 174).map (fun i=>(i.zero,i.size,i.bytes))=some (some (.int .u64 0),1,8):=by kernel_rfl
def jV(n:Nat)(hn:n<=1048576)(w):(Instr.makeSlice 114 (.int .i64 (n:Int)) (.int .i64 (n:Int))).run prog w=.ok (.slice w.heap.size n n) (w.alloc (.cells (madeCells #[.int .u64 0] n) 174)):=
 run_make_row' 114 174 (.int .u64 0) 8 underlying114 vL rfl .i64 .i64 n (by omega) (by omega) w
def fw(s:ByteArray)(k:Nat):Nat:=eK (s.data.toList.reverse.take k)
def Co(s):fw s 0=0:=rfl
def Cp(s):fw s s.size=dC s.data.toList:=by
 unfold fw dC;rw[Ny (by simp)]
def vM(s:ByteArray)(k:Nat)(hk:k<=s.size):fw s k<256^k:=by
 have h:=vk (s.data.toList.reverse.take k);rw[Nz,Nat.min_eq_left (by simpa using hk)]at h;exact h
def vN(s:ByteArray)(k:Nat)(h:k<s.size):fw s (k+1)=fw s k+(s[s.size-1-k]'(by omega)).toNat*256^k:=by
 unfold fw;have hl:k<s.data.toList.reverse.length:=by simpa using h
 rw[List.take_succ_eq_append_getElem hl,vj,Nz,Nat.min_eq_left (by omega)];have e:s.data.toList.reverse[k]=s[s.size-1-k]'(by omega):=by
  rw[List.getElem_reverse];simp only[Array.getElem_toList,Array.length_toList];rfl
 rw[e];simp only[eK];rw[Nat.mul_zero,Na,M8]
def Cq(s:ByteArray)(k:Nat)(h:k<s.size) :bits .or .u64 (word (fw s k) (k/8):Int) (IntKind.u64.wrap (IntKind.u64.wrap ((s[s.size-1-k]'(by omega)).toNat:Int)*2^(8*(k%8))))=((word (fw s (k+1)) (k/8):Nat):Int):=by
 have hc:(s[s.size-1-k]'(by omega)).toNat<256:=UInt8.toNat_lt _;rw[vN s k h,vx (vM s k (by omega)) hc,if_pos rfl];generalize (s[s.size-1-k]'(by omega)).toNat=c at *;have h1:IntKind.u64.wrap (c:Int)=(c:Int):=by rw[NA];omega
 have hp:2^(8*(k%8))<=2^56:=Ng (by omega) (by omega);have h2:c*2^(8*(k%8))<18446744073709551616:=by
  have h3:c*2^(8*(k%8))<=255*2^56:=Nat.mul_le_mul (by omega) hp;omega
 have h4:IntKind.u64.wrap ((c:Int)*2^(8*(k%8)))=((c <<< (8*(k%8)):Nat):Int):=by
  rw[Nat.shiftLeft_eq,NA];have:(c:Int)*2^(8*(k%8))=((c*2^(8*(k%8)):Nat):Int):=by simp
  rw[this];omega
 rw[h1,h4,bits_or_u64_nat _ _ (dD _ _) (by rw[Nat.shiftLeft_eq];exact h2)]
def Cr{w}{b n:Nat}(s:ByteArray)(k:Nat)(h:k<s.size)(hr:Row w b n (word (fw s k)))(v:Int)(hv:v=(word (fw s (k+1)) (k/8):Nat)) :Row (w.setCell ⟨b,k/8,none⟩ (.int .u64 v)).drew b n (word (fw s (k+1))):=by
 refine(Row.drew (hr.set (k/8) v hv)).congr fun i _=>?_;have hc:(s[s.size-1-k]'(by omega)).toNat<256:=UInt8.toNat_lt _;by_cases e:i=k/8
 ·rw[if_pos e,e]
 ·rw[if_neg e,vN s k h,vx (vM s k (by omega)) hc,if_neg e]
def fy(s:ByteArray)(w)(hs:s.size<=1048576) :Calls prog 49 #[.string s] w fun e w'=>e=.returned (.slice w.heap.size ((s.size+7)/8) ((s.size+7)/8))/\Row w' w.heap.size ((s.size+7)/8) (word (dC s.data.toList))/\eB w w'/\w'.heap.size=w.heap.size+1:=by
 have ao:∀W:World,(Instr.makeSlice 114 (.int .i64 (((s.size:Int)+7)/8)) (.int .i64 (((s.size:Int)+7)/8))).run prog W=.ok (.slice W.heap.size ((s.size+7)/8) ((s.size+7)/8)) (W.alloc (.cells (madeCells #[.int .u64 0] ((s.size+7)/8)) 174)):=by
  intro W;have e:((s.size:Int)+7)/8=(((s.size+7)/8:Nat):Int):=by omega
  rw[e];exact jV _ (by omega) W
 go_enter func49,ntmps49;go_wp2;go_loopw [12] (fun i wr=>∃k:Nat,k<=s.size/\i=.int .i64 k/\Row wr w.heap.size ((s.size+7)/8) (word (fw s k))/\eB w wr/\wr.heap.size=w.heap.size+1) (fun i _=>s.size-(intOf i).toNat)
 case atStart=>
  refine⟨0,Nu _,rfl,?_,(NB _ _).alloc (No _) _,by simp⟩;exact(Row.of_rowIs (f:=fun _=>0) (World.rowIs_made w _ _ _)).congr fun i _=>by rw[Co,oK (ft i)]
 case round=>
  obtain⟨k,hk,rfl,ab,hb,ag⟩:=hrel;have HR:=MY ab;have HB:=MY hb;have HS:=MY ag;clear ab hb ag;by_cases ad:k<s.size
  ·have ac:=Row.cell HR.out (i:=k/8) (by omega);have an:=Row.frozen HR.out (k/8);have e1:IntKind.i64.wrap ((s.size:Int)-1)=(s.size:Int)-1:=by rw[NC];omega
   have e2:IntKind.i64.wrap ((s.size:Int)-1-(k:Int))=(s.size:Int)-1-(k:Int):=by rw[NC];omega
   have e3:((s.size:Int)-1-(k:Int)).toNat=s.size-1-k:=by omega
   have e4:(0:Int)<=(s.size:Int)-1-(k:Int):=by omega
   have e5:(s.size:Int)-1-(k:Int)<(s.size:Int):=by omega
   have e6:IntKind.i64.wrap ((k:Int)/8)=(k:Int)/8:=by rw[NC];omega
   have e7:((k:Int)/8).toNat=k/8:=by omega
   have al:=rN (P:=prog) underlying9 s (s.size-1-k) ((s.size:Int)-1-(k:Int)) (by omega) (by omega);have HV:=MY (Cq s k ad);go_wp2;go_region;go_wp2;go_roundw
   case rel=>
    refine⟨k+1,by omega,by go_num,Cr s k ad HR.out _ HV.out,(HB.setCell (p:=⟨w.heap.size,k/8,none⟩) (No _) _).drew,?_⟩;have:=HS.out;simpa[World.setCell]using this
   case measure=>simp[intOf];omega
  ·obtain rfl:k=s.size:=by omega
   go_wp2;go_ret;refine⟨rfl,?_,HB.out,HS.out⟩;have:=HR.out;rwa[Cp]at this
def vO:(prog.info? 5).map (fun i=>(i.zero,i.size,i.bytes))=some (some (.int .u8 0),1,1):=by kernel_rfl
def jo(c:UInt8):Value:= .int .u8 (c.toNat:Int)
def mM(b n c V:Nat)(w:World)(hV:V<18446744073709551616^n)(hn:n<=65536)(hb:b<w.heap.size)(h:Wds w b n V) :Calls prog 47 #[.slice b n c] w fun e w'=>e=.returned (.string ⟨(benc V).toArray⟩)/\eB w w':=by
 have HV:=MY hV;have H:=MY h;obtain⟨i0,ax,bt,bc,bv⟩:=info_parts vO;go_enter func47,ntmps47;go_wp2_with (at_make;refine wpList_make_own _ rfl _ _ 173 rfl w.heap.size 5 i0 (.int .u8 0) 1 underlying173 ax bt bc .i64 .i64 _ (8*n) rfl rfl (by omega) ?_ ?_ (No _) ?_;(rw[bv];omega);(simp only[maxLen];omega);intro w1 al bn);have HO:=MY al;have HB:=MY ((NB w.heap.size w).grown bn (No _) (by simp));go_loopw [3,4] (fun v i wr=>∃z:Int,-1<=z/\z<8*n/\i=.int .i64 z/\v=.slice w.heap.size (benc (V/256^(z+1).toNat)).length (8*n)/\wr.ownsRow w.heap.size 5 1 v (benc (V/256^(z+1).toNat)).length ((benc (V/256^(z+1).toNat)).map jo)/\eB w wr) (fun _ i _=>(intOf i+1).toNat)
 case atStart=>
  have e:V/256^(8*(n:Int)-1+1).toNat=0:=by
   rw[show(8*(n:Int)-1+1).toNat=8*n from by omega];apply Nj;have:=HV.out;rwa[fu,show 64*n=8*(8*n)from by omega,<-mH]at this
  refine⟨8*(n:Int)-1,by omega,by omega,rfl,?_,?_,HB.out⟩
  ·rw[e];rfl
  ·rw[e];exact HO.out
 case round=>
  obtain⟨z,bu,bw,rfl,rfl,ba,ar⟩:=hrel;have ag:=MY ba;have ac:=MY ar;by_cases hz:0<=z
  ·obtain⟨m,rfl⟩:=Int.eq_ofNat_of_zero_le hz;have bg:=(ac.cell (p:=⟨b,m/8,none⟩) hb).trans (H.out (m/8) (by omega));obtain⟨y,hy,br⟩:∃y:Nat,(word V (m/8):Int)/2^(8*(m%8))=(y:Int)/\y%256=V/256^m%256:=by
    refine⟨word V (m/8) >>> (8*(m%8)),?_,BU V m⟩;rw[Nat.shiftRight_eq_div_pow];simp
   have HY:=MY br;have an:V/256^m=256*(V/256^(m+1))+y%256:=by
    rw[HY.out,M7,<-Nq];omega
   have bd:=MY an;have em:((m:Int)+1).toNat=m+1:=by omega
   rw[em]at ag⊢;have bo:(benc (V/256^(m+1))).length+m+1<=8*n:=by
    have h1:(benc (V/256^(m+1))).length<=8*n-m-1:=by
     rw[rD,Nl (Nat.pow_pos (by omega)),<-Nn];have:=HV.out;rw[fu,show 64*n=8*(8*n)from by omega,<-mH]at this;rwa[show 8*n-m-1+(m+1)=8*n from by omega]
    omega
   have bp:V/256^(m+1)=0<->(benc (V/256^(m+1))).length=0:=by
    rw[List.length_eq_zero_iff,rB]
   have HX:=MY bp;generalize bl:benc (V/256^(m+1))=bs at *;have bh:=MY bl;by_cases ao:y%256=0/\bs.length=0
   ·obtain⟨bb,aA⟩:=ao;have bk:bs=[]:=List.length_eq_zero_iff.1 aA;have ad:benc (V/256^(↑m-1+1:Int).toNat)=[]:=by
     rw[show((m:Int)-1+1).toNat=m from by omega,bd.out,HX.2 aA,bb];rfl
    have HF:=MY ad;subst bk;have t1:((y:Int)%256 != 0)=false:=by simp;omega
    simp only[ND]at *;go_wp2;refine⟨⟨(m:Int)-1,by omega,by omega,rfl,?_,?_,ac.out⟩,by simp[intOf] <;> omega⟩
    ·rw[HF.out];rfl
    ·rw[HF.out];exact ag.out
   ·have ad:benc (V/256^(↑m-1+1:Int).toNat)=bs++[UInt8.ofNat (y%256)]:=by
     rw[show((m:Int)-1+1).toNat=m from by omega,bd.out,vq _ _ (by omega),bh.out];by_cases hq:y%256=0
     ·exact .inl fun e=>ao ⟨hq,HX.1 e⟩
     ·exact .inr hq
    have HF:=MY ad;have bm:jo (UInt8.ofNat (y%256))=.int .u8 ((y:Int)%256):=by
     unfold jo;rw[UInt8.toNat_ofNat'];congr 1;omega
    have bi:=MY bm;have key:∀(W:World),W.ownsRow w.heap.size 5 1 (.slice w.heap.size (bs.length+1) (8*n)) (bs.length+1) (bs.map jo++[.int .u8 ((y:Int)%256)])->W.ownsRow w.heap.size 5 1 (.slice w.heap.size (bs.length+1) (8*n)) (benc (V/256^(↑m-1+1:Int).toNat)).length ((benc (V/256^(↑m-1+1:Int).toNat)).map jo):=by
     intro W hW;rw[HF.out];simpa[bi.out]using hW
    have be:=MY key;by_cases bb:y%256=0
    ·have aA:0<bs.length:=by
      rcases Nc bs.length with e|e
      ·exact absurd ⟨bb,e⟩ ao
      ·exact e
     have t1:((y:Int)%256 != 0)=false:=by simp;omega
     go_wp2_with (at_builtin;refine wpList_append_fits _ rfl _ _ 173 rfl w.heap.size 5 i0 1 underlying173 ax bc w.heap.size bs.length (8*n) (bs.map jo) rfl (ag.alloc _) ⟨wr.heap.size,0,none⟩ 1 1 [.int .u8 ((y:Int)%256)] rfl rfl (cell_one_new _ _ _) (by simp[Value.oneCell']) (by omega) ?_;intro w2 ab av);refine⟨⟨(m:Int)-1,by omega,by omega,rfl,?_,be.out _ ab,?_⟩,by simp[intOf] <;> omega⟩
     ·rw[HF.out];simp
     ·exact(ac.alloc ac.size _).grown av (by have:=ac.size;simp;omega) (by simp)
    ·have t1:((y:Int)%256 != 0)=true:=by simp;omega
     go_wp2_with (at_builtin;refine wpList_append_fits _ rfl _ _ 173 rfl w.heap.size 5 i0 1 underlying173 ax bc w.heap.size bs.length (8*n) (bs.map jo) rfl (ag.alloc _) ⟨wr.heap.size,0,none⟩ 1 1 [.int .u8 ((y:Int)%256)] rfl rfl (cell_one_new _ _ _) (by simp[Value.oneCell']) (by omega) ?_;intro w2 ab av);refine⟨⟨(m:Int)-1,by omega,by omega,rfl,?_,be.out _ ab,?_⟩,by simp[intOf] <;> omega⟩
     ·rw[HF.out];simp
     ·exact(ac.alloc ac.size _).grown av (by have:=ac.size;simp;omega) (by simp)
  ·obtain rfl:z= -1:=by omega
   have bx:=run_convert_bytes_back (P:=prog) wr 173 9 5 ⟨w.heap.size,0,none⟩ (8*n) (benc V) underlying173 underlying5 underlying9 (by
    intro j hj;have ho:=ag.out;simp only[Int.reduceNeg,Int.reduceAdd,Int.toNat_zero,Nat.pow_zero,Nat.div_one]at ho;have:=ho.cells (g:=w.heap.size) rfl j (jo (benc V)[j]) (by simp[hj]);exact this)
   have e0:V/256^((-1:Int)+1).toNat=V:=by simp
   rw[e0];go_wp2;go_ret;exact⟨rfl,ac.out⟩
def Ct(w):Calls prog 47 #[.slice none 0 0] w fun e w'=>e=.returned (.string ⟨(benc 0).toArray⟩)/\eB w w':=by
 obtain⟨i0,an,ao,ar,av⟩:=info_parts vO;go_enter func47,ntmps47;go_wp2_with (at_make;refine wpList_make_own _ rfl _ _ 173 rfl w.heap.size 5 i0 (.int .u8 0) 1 underlying173 an ao ar .i64 .i64 _ 0 rfl rfl (by omega) ?_ ?_ (No _) ?_;(rw[av];omega);(simp only[maxLen];omega);intro w1 ac al);have HB:=MY ((NB w.heap.size w).grown al (No _) (by simp));have ag:=fun W=>run_convert_bytes_back (P:=prog) W 173 9 5 ⟨w.heap.size,0,none⟩ 0 [] underlying173 underlying5 underlying9 (by intro j hj;simp at hj);go_loopw [3,4] (fun v i wr=>v=.slice w.heap.size 0 0/\i=.int .i64 (-1)/\eB w wr) (fun _ _ _=>0)
 case atStart=>exact⟨rfl,rfl,HB.out⟩
 case round=>
  obtain⟨rfl,rfl,ab⟩:=hrel;have ad:=MY ab;simp only[ND]at ag;go_wp2;go_ret;exact⟨rfl,ad.out⟩
def vQ(b n c V:Nat)(w:World)(hV:V<18446744073709551616^n)(hn:n<=65536)(hb:b<w.heap.size)(h:Wds w b n V) :Calls prog 143 #[.slice b n c] w fun e w'=>e=.returned (if V<256^256 then .tuple #[.string ⟨(benc V).toArray⟩,.int .i64 0]else .tuple #[.string ⟨#[]⟩,.int .i64 2])/\eB w w':=by
 have HC:=MY (mM b n c V w hV hn hb h);have HL:=MY (rD (n:=V) (k:=256));by_cases hl:(benc V).length<=256
 ·rw[if_pos (HL.1 hl)];go_enter func143,ntmps143;go_wp2_with (go_at_call 47;refine HC.mono ?_;rintro e w1 ⟨rfl,ab⟩);go_ret2;exact⟨rfl,ab⟩
 ·rw[if_neg (fun e=>hl (HL.2 e))];go_enter func143,ntmps143;go_wp2_with (go_at_call 47;refine HC.mono ?_;rintro e w1 ⟨rfl,ab⟩);go_ret2;exact⟨rfl,ab⟩
def Cu{P}{f:FuncId}{args}{w:World}{a n:Nat}{v}(h:Calls P f args (w.drewN (a+n)) fun e w'=>e=.returned v/\w.drewN (a+n)=w') :Calls P f args (w.drewN (a+n)) fun e w''=>e=.returned v/\∃m,w''=w.drewN (a+m):=
 h.mono fun _ _ ⟨he,hm⟩=>⟨he,n,hm.symm⟩
def cmpN(a b:Nat):Int:=if a<b then -1 else if a=b then 0 else 1
def iK{a b:Nat}(h:a<b):cmpN a b= -1:=if_pos h
def oQ(a:Nat):cmpN a a=0:=by simp[cmpN]
def jW{a b:Nat}(h:b<a):cmpN a b=1:=by unfold cmpN;rw[if_neg (by omega),if_neg (by omega)]
def Cv(x y:Nat)(w) :Calls prog 137 #[.int .i64 x,.int .i64 y] w fun e w'=>e=.returned (.int .i64 (cmpN x y))/\w=w':=by
 rcases Nat.lt_trichotomy x y with h|rfl|h
 ·rw[iK h];go_enter func137,ntmps137;go_wp2;go_ret;exact⟨rfl,rfl⟩
 ·rw[oQ];go_enter func137,ntmps137;go_wp2;go_ret;exact⟨rfl,rfl⟩
 ·rw[jW h];go_enter func137,ntmps137;go_wp2;go_ret;exact⟨rfl,rfl⟩
def Cw(x y:Nat)(w) :Calls prog 138 #[.int .u64 x,.int .u64 y] w fun e w'=>e=.returned (.int .i64 (cmpN x y))/\w=w':=by
 rcases Nat.lt_trichotomy x y with h|rfl|h
 ·rw[iK h];go_enter func138,ntmps138;go_wp2;go_ret;exact⟨rfl,rfl⟩
 ·rw[oQ];go_enter func138,ntmps138;go_wp2;go_ret;exact⟨rfl,rfl⟩
 ·rw[jW h];go_enter func138,ntmps138;go_wp2;go_ret;exact⟨rfl,rfl⟩
def jX(b b' n m c c' V U:Nat)(w)(hV:bz n V)(hU:bz m U)(hn:n<=65536)(hm:m<=65536)(h:Wds w b n V)(h':Wds w b' m U) :Calls prog 97 #[.slice b n c,.slice b' m c'] w fun e w'=>e=.returned (.int .i64 (cmpN V U))/\∃q,w'=w.drewN q:=by
 have HV:=MY hV;have HU:=MY hU;have H:=MY h;have H':=MY h';clear h h' hV hU;by_cases ad:n=m
 ·subst ad;go_enter func97,ntmps97;go_wp2;go_step3;go_wp2;go_step3;go_wp2;go_loopw [5] (fun i wr=>∃z:Int,-1<=z/\z<n/\i=.int .i64 z/\(∀j:Nat,z<j->j<n->word V j=word U j)/\∃q,wr=w.drewN q) (fun i _=>(intOf i+1).toNat)
  case atStart=>exact⟨(n:Int)-1,by omega,by omega,rfl,fun j h1 h2=>by omega,0,rfl⟩
  case round=>
   obtain⟨z,al,an,rfl,ac,q,rfl⟩:=hrel;have HE:=MY ac;clear ac;by_cases hz:0<=z
   ·obtain⟨k,rfl⟩:=Int.eq_ofNat_of_zero_le hz;have ag:=H.out k (by omega);have hc2:=H'.out k (by omega);by_cases he:word V k=word U k
    ·rw[he]at ag;go_wp2;go_quiet (fail);go_wp2;go_roundw
     case rel=>
      refine⟨(k:Int)-1,by omega,by omega,rfl,fun j h1 h2=>?_,?_⟩
      ·by_cases e:j=k
       ·rw[e];exact he
       ·exact HE.out j (by omega) h2
      ·exact⟨_,rfl⟩
     case measure=>simp[intOf]
    ·have t1:((word V k:Int) != (word U k:Int))=true:=by simp;omega
     go_wp2;go_quiet (fail);go_wp2;go_quiet ((go_at_call 138;exact Cu (Cw _ _ _)));go_wp2;rw[NE];go_ret;refine⟨?_,_,World.drewN_drewN _ _ _⟩;rcases Nat.lt_or_gt_of_ne he with hl|hg
     ·rw[iK (vw HV.1 HU.1 (by omega) (fun j h1 h2=>HE.out j (by omega) h2) hl),<-iK hl];rfl
     ·rw[jW (vw HU.1 HV.1 (by omega) (fun j h1 h2=>(HE.out j (by omega) h2).symm) hg),<-jW hg];rfl
   ·obtain rfl:z= -1:=by omega
    go_wp2;go_ret;refine⟨?_,_,rfl⟩;rw[BS HV.1 HU.1 (fun j hj=>HE.out j (by omega) hj),oQ];rfl
 ·have t1:((n:Int) != (m:Int))=true:=by simp;omega
  have ab:cmpN n m=cmpN V U:=by
   rcases Nat.lt_or_gt_of_ne ad with hl|hg
   ·rw[iK hl,iK (oM HV.out HU.out hl)]
   ·rw[jW hg,jW (oM HU.out HV.out hg)]
  have HC:=MY ab;clear ab;go_enter func97,ntmps97;go_wp2;go_step3;go_wp2_with (go_at_call 137;refine(Cv n m _).mono ?_;rintro e w1 ⟨rfl,rfl⟩);rw[NE];go_ret;refine⟨?_,0,rfl⟩;rw[<-HC.out];rfl
end
section
open Go.RowKit Bf
attribute [local go_sem ↓] Go.wp_at_zero Go.wp_at_succ
def vR(x y c:Nat)(hc:c<=1)(w):(callFunc 141 #[.int .u64 (x:Int),.int .u64 (y:Int),.int .u64 (c:Int)]).run prog w=.ok (.value (.tuple #[.int .u64 (((x+y+c)%18446744073709551616:Nat):Int),.int .u64 (((x+y+c)/18446744073709551616:Nat):Int)])) w:=by
 rw[run_callFunc_extern func141 (by kernel_rfl) (by kernel_rfl) (by kernel_rfl) (e:=add64Entry) (by kernel_rfl),run_add64 x y c (by omega) (by omega) (by omega) (by omega)];simp only[Result.andThen];congr 5 <;> omega
def Cx(x y b:Nat)(hb:b<=1)(w):(callFunc 139 #[.int .u64 (x:Int),.int .u64 (y:Int),.int .u64 (b:Int)]).run prog w=.ok (.value (.tuple #[.int .u64 (((x+18446744073709551616-y-b)%18446744073709551616:Nat):Int),.int .u64 ((if x<y+b then 1 else 0:Nat):Int)])) w:=by
 rw[run_callFunc_extern func139 (by kernel_rfl) (by kernel_rfl) (by kernel_rfl) (e:=sub64Entry) (by kernel_rfl),run_sub64 x y b hb];rfl
def rO(b n c i V:Nat)(w)(hV:V<18446744073709551616^n)(h:Wds w b n V) :Calls prog 135 #[.slice b n c,.int .i64 i] w fun e w'=>e=.returned (.int .u64 (word V i:Int))/\w=w':=by
 by_cases hi:i<n
 ·exact vJ b n c i _ w hi (h i hi)
 ·have e:word V i=0:=oK (Nf hV (Ng (by omega) (by omega)));rw[e];exact vK _ n c i w (by omega)
def mix(i:Nat)(f g:Nat->Nat):Nat->Nat:=fun j=>if j<i then f j else g j
def oR(g b N n m c c' V U:Nat)(f:Nat->Nat)(w)(hU:U<18446744073709551616^m)(hV:V<18446744073709551616^n)(aA:U<=V)(hf:∀j,j<n->f j=word V j)(hN:n<=N)(hn:n<=65536)(bc:g≠b)(hg:Row w g N f)(hb:Wds w b m U) :Calls prog 98 #[.slice g n c,.slice b m c'] w fun e w'=>e=.returned (.tuple #[])/\Row w' g N (mix n (word (V-U)) f)/\w.grownBy w' (some g)/\w'.heap.size=w.heap.size:=by
 have HU:=MY hU;have HV:=MY hV;have HG:=MY hg;have ax:=MY hb;have HF:=MY hf;clear hU hV hg hb hf;go_enter func98,ntmps98;go_wp2;go_loopw [4,8] (fun bo i wr=>∃k:Nat,k<=n/\i=.int .i64 k/\bo=.int .u64 (bor V U k:Int)/\Row wr g N (mix k (word (V-U)) f)/\w.grownBy wr (some g)/\wr.heap.size=w.heap.size) (fun _ i _=>n-(intOf i).toNat)
 case atStart=>
  refine⟨0,Nu _,rfl,by rw[Cg];rfl,?_,World.grownBy.refl _ _,rfl⟩;exact(HG.out).congr fun i _=>by simp[mix]
 case round=>
  obtain⟨k,hk,rfl,rfl,ad,ao,av⟩:=hrel;have HR:=MY ad;have ab:=MY ao;have HS:=MY av;clear ad ao av;by_cases ba:k<n
  ·have al:=Ch V U k;have ac:=Row.cell HR.out (i:=k) (by omega);have bb:=Row.frozen HR.out k;have ef:mix k (word (V-U)) f k=word V k:=by simp[mix,HF.out k ba]
   rw[ef]at ac;clear ef;have HW:=MY (fun W (hW:Wds W b m U)=>rO b m c' k U W HU.out hW);have hs:=fun W=>Cx (word V k) (word U k) (bor V U k) al W;rw[Cj aA,<-Ci]at hs;have an:Wds wr b m U:=fun j hj=>(ab.cell (ax.out j hj) (by simp;omega))
   have ag:=MY an;clear an;go_wp2_with fail;go_region_with (go_at_call 135;refine(HW.out _ (by exact ag.out)).mono ?_;rintro e w1 ⟨rfl,rfl⟩);all_goals
    go_wp2
    go_roundw
    case rel=>
     refine⟨k+1,by omega,by go_num,rfl,?_,?_,?_⟩
     ·refine(Row.drew (HR.set k _ rfl)).congr fun i _=>?_
      by_cases e:i=k
      ·rw[if_pos e,e];simp[mix]
      ·rw[if_neg e]
       have:(i<k+1)=(i<k):=by apply propext;omega
       simp[mix,this]
     ·exact⟨ab.os,ab.tape,ab.output,by have:=ab.size;simpa[World.setCell]using this,fun i hi ar=>(NF _ _ _ _ (by simp at ar⊢;omega)).trans (ab.block i hi ar)⟩
     ·have:=HS.out;simpa[World.setCell]using this
    case measure=>simp[intOf];omega
  ·obtain rfl:k=n:=by omega
   go_wp2;go_end0;exact⟨rfl,HR.out,ab.out,HS.out⟩
end
section
open Go.RowKit Bf
namespace M64
def maskN(a:Nat)(ha:a<18446744073709551616):bits .and .u64 (a:Int) 4294967295=((a%4294967296:Nat):Int):=by
 have h:=bits_and_u64_nat a 4294967295 ha (by omega);have e:a &&&4294967295=a%4294967296:=Nat.and_two_pow_sub_one_eq_mod a 32;rw[e]at h;exact h
def divN(a:Nat):(a:Int)/4294967296=((a/4294967296:Nat):Int):=by omega
def mulN(a b:Nat):(a:Int)*(b:Int)=((a*b:Nat):Int):=(NG a b).symm
def addN(a b:Nat):(a:Int)+(b:Int)=((a+b:Nat):Int):=(Int.natCast_add a b).symm
def wrapN(a:Nat)(ha:a<18446744073709551616):IntKind.u64.wrap (a:Int)=(a:Int):=by rw[NA];omega
def wrapM(a:Nat):IntKind.u64.wrap (a:Int)=((a%18446744073709551616:Nat):Int):=by rw[NA];omega
end M64
def vS(x y:Nat)(hx:x<18446744073709551616)(hy:y<18446744073709551616)(w) :Calls prog 140 #[.int .u64 x,.int .u64 y] w fun e w'=>e=.returned (.tuple #[.int .u64 ((x*y/18446744073709551616:Nat):Int),.int .u64 ((x*y%18446744073709551616:Nat):Int)])/\w=w':=by
 obtain⟨bd,bt,bw,al⟩:=Lib.mul64_hi x y hx hy;have ba:=Lib.half_mul_le (a:=x/4294967296) (b:=y/4294967296) (by omega) (by omega);have bb:=Lib.half_mul_le (a:=x/4294967296) (b:=y%4294967296) (by omega) (by omega);have bc:=Lib.half_mul_le (a:=x%4294967296) (b:=y/4294967296) (by omega) (by omega);have ab:x/4294967296*(y/4294967296)<18446744073709551616:=by omega
 have ac:x/4294967296*(y%4294967296)<18446744073709551616:=by omega
 have ad:x%4294967296*(y/4294967296)<18446744073709551616:=by omega
 have ag:x/4294967296*(y/4294967296)+(x/4294967296*(y%4294967296)+x%4294967296*(y%4294967296)/4294967296)/4294967296<18446744073709551616:=by omega
 have bh:x/4294967296*(y/4294967296)+(x/4294967296*(y%4294967296)+x%4294967296*(y%4294967296)/4294967296)/4294967296+((x/4294967296*(y%4294967296)+x%4294967296*(y%4294967296)/4294967296)%4294967296+x%4294967296*(y/4294967296))/4294967296<18446744073709551616:=by omega
 go_enter func140,ntmps140;go_wp2;simp only[M64.maskN x hx,M64.maskN y hy,M64.divN,M64.mulN,M64.addN,M64.wrapN _ bd,M64.wrapN _ ac,M64.wrapN _ bt,M64.maskN _ bt,M64.wrapN _ ad,M64.wrapN _ bw,M64.wrapN _ ab,M64.wrapN _ ag,M64.wrapN _ bh,M64.wrapM (x*y)];rw[al];go_ret2;exact⟨rfl,rfl⟩
def vT(x y:Nat)(w):(callFunc 141 #[.int .u64 (x:Int),.int .u64 (y:Int),.int .u64 0]).run prog w=.ok (.value (.tuple #[.int .u64 (((x+y)%18446744073709551616:Nat):Int),.int .u64 (((x+y)/18446744073709551616:Nat):Int)])) w:=by
 simpa using vR x y 0 (by omega) w
def Cy{x y s high:Nat}(hx:x<18446744073709551616)(hy:y<18446744073709551616)(hs:s<18446744073709551616)(hh:high<18446744073709551616) :((x*y%18446744073709551616+s)%18446744073709551616+high)%18446744073709551616+(x*y/18446744073709551616+(x*y%18446744073709551616+s)/18446744073709551616+((x*y%18446744073709551616+s)%18446744073709551616+high)/18446744073709551616)*18446744073709551616=x*y+s+high/\ x*y/18446744073709551616+(x*y%18446744073709551616+s)/18446744073709551616+((x*y%18446744073709551616+s)%18446744073709551616+high)/18446744073709551616<18446744073709551616:=by
 have h:x*y<=18446744073709551615*18446744073709551615:=Nat.mul_le_mul (by omega) (by omega);generalize x*y=p at *;omega
structure vU(wr:World)(g N S top:Nat)(high P:Nat)(f:Nat->Nat):Prop where
 row:Row wr g N f
 lt:∀j,f j<18446744073709551616
 val:aO f N+high*P=S
 zero:∀j,top<=j->f j=0
def vV(b b' n m c c' V U:Nat)(w:World)(hV:V<18446744073709551616^n)(hU:U<18446744073709551616^m)(hn:n<=65536)(hm:m<=65536)(hb:b<w.heap.size)(hb':b'<w.heap.size)(h:Wds w b n V)(h':Wds w b' m U) :Calls prog 99 #[.slice b n c,.slice b' m c'] w fun e w'=>e=.returned (.slice w.heap.size (n+m) (n+m))/\Row w' w.heap.size (n+m) (word (V*U))/\eB w w'/\w'.heap.size=w.heap.size+1:=by
 have HV:=MY hV;have HU:=MY hU;have H:=MY h;have H':=MY h';clear h h' hV hU;have bo:∀W:World,(Instr.makeSlice 114 (.int .i64 ((n:Int)+(m:Int))) (.int .i64 ((n:Int)+(m:Int)))).run prog W=.ok (.slice W.heap.size (n+m) (n+m)) (W.alloc (.cells (madeCells #[.int .u64 0] (n+m)) 174)):=by
  intro W;rw[<-Int.natCast_add];exact jV _ (by omega) W
 go_enter func99,ntmps99;go_wp2;go_loopw [23] (fun i wr=>∃k:Nat,k<=n/\i=.int .i64 k/\(∃f,vU wr w.heap.size (n+m) (aO (word V) k*U) (k+m) 0 0 f)/\eB w wr/\wr.heap.size=w.heap.size+1) (fun i _=>n-(intOf i).toNat)
 case atStart=>
  refine⟨0,Nu _,rfl,⟨fun _=>0,Row.of_rowIs (World.rowIs_made w _ _ _),fun _=>by omega,?_,fun _ _=>rfl⟩,(NB _ _).alloc (No _) _,by simp⟩;have:∀k,aO (fun _=>0) k=0:=fun k=>by induction k with|zero=>rfl|succ k ih=>simp[aO,ih]
  simp[this,aO]
 case round=>
  obtain⟨k,hk,rfl,⟨f0,bc⟩,ac,ad⟩:=hrel;have HF:=MY bc;have HB:=MY ac;have HS:=MY ad;clear bc ac ad bo;by_cases bn:k<n
  ·have bb:=(HB.cell (p:=⟨b,k,none⟩) hb).trans (H.out k bn);obtain⟨wo,rfl⟩:∃wo:World,wo=wr:=⟨_,rfl⟩
   go_wp2;go_loopw [8,30] (fun hi j wr=>∃(q high:Nat),q<=m/\j=.int .i64 q/\hi=.int .u64 (high:Int)/\high<18446744073709551616/\(∃f,vU wr w.heap.size (n+m) (aO (word V) k*U+word V k*aO (word U) q*18446744073709551616^k) (k+m) high (18446744073709551616^(k+q)) f)/\eB w wr/\wr.heap.size=w.heap.size+1) (fun _ j _=>m-(intOf j).toNat)
   case atStart=>
    refine⟨0,0,Nu _,rfl,rfl,by omega,⟨f0,HF.row,HF.lt,?_,HF.zero⟩,HB.out,HS.out⟩;have:=HF.val;simp[aO]at this⊢;exact this
   case round=>
    obtain⟨q,high,hq,rfl,rfl,hh,⟨f,hf⟩,ac,ad⟩:=hrel;have ab:=MY hf;have an:=MY ac;have aA:=MY ad;clear hf ac ad;by_cases bp:q<m
    ·have ao:=(an.cell (p:=⟨b',q,none⟩) hb').trans (H'.out q bp);have bl:=Row.cell ab.row (i:=k+q) (by omega);have bm:=Row.frozen ab.row (k+q);have hx:=dD V k;have hy:=dD U q;have br:=ab.lt (k+q);obtain⟨bh,al⟩:=Cy hx hy br hh;have ag:=MY bh;clear bh;have HM:=MY (fun W=>vS (word V k) (word U q) hx hy W);obtain⟨lo,bg⟩:∃v,v=word V k*word U q%18446744073709551616:=⟨_,rfl⟩
     obtain⟨hi,bd⟩:∃v,v=word V k*word U q/18446744073709551616:=⟨_,rfl⟩
     rw[<-bg,<-bd]at ag HM al;have bi:=fun W=>vT lo (f (k+q)) W;obtain⟨l1,be⟩:∃v,v=(lo+f (k+q))%18446744073709551616:=⟨_,rfl⟩
     obtain⟨c1,ba⟩:∃v,v=(lo+f (k+q))/18446744073709551616:=⟨_,rfl⟩
     rw[<-be,<-ba]at ag bi al;have bk:=fun W=>vT l1 high W;obtain⟨s1,av⟩:∃v,v=(l1+high)%18446744073709551616:=⟨_,rfl⟩
     obtain⟨d1,ar⟩:∃v,v=(l1+high)/18446744073709551616:=⟨_,rfl⟩
     rw[<-av,<-ar]at ag bk;rw[<-ar]at al;have ax:s1<18446744073709551616:=by rw[av];omega
     clear bg bd be ba av ar;go_wp2_with (go_at_call 140;refine(HM.out _).mono ?_;rintro e w1 ⟨rfl,rfl⟩);go_roundw
     case rel=>
      refine⟨q+1,hi+c1+d1,by omega,by go_num,by go_num,al,⟨upd f (k+q) s1,?_,?_,?_,?_⟩,?_,?_⟩
      ·refine(ab.row.set (k+q) _ rfl).congr fun i _=>?_;by_cases e:i=k+q
       ·rw[if_pos e,e,mG]
       ·rw[if_neg e,jm f s1 e]
      ·intro j;by_cases e:j=k+q
       ·rw[e,mG];exact ax
       ·rw[jm f s1 e];exact ab.lt j
      ·exact BX (by omega) ab.val ag.out
      ·intro j hj;rw[jm f s1 (by omega)];exact ab.zero j hj
      ·exact an.setCell (p:=⟨w.heap.size,k+q,none⟩) (No _) _
      ·have:=aA.out;simpa[World.setCell]using this
     case measure=>simp[intOf];omega
    ·obtain rfl:q=m:=by omega
     have bl:=Row.cell ab.row (i:=k+q) (by omega);have bm:=Row.frozen ab.row (k+q);go_wp2;go_roundw
     case rel=>
      refine⟨k+1,by omega,by go_num,⟨upd f (k+q) high,?_,?_,?_,?_⟩,?_,?_⟩
      ·refine(ab.row.set (k+q) _ rfl).congr fun i _=>?_;by_cases e:i=k+q
       ·rw[if_pos e,e,mG]
       ·rw[if_neg e,jm f high e]
      ·intro j;by_cases e:j=k+q
       ·rw[e,mG];exact hh
       ·rw[jm f high e];exact ab.lt j
      ·rw[Nat.zero_mul,Na];have hv:=ab.val;rw[kW HU.out]at hv;exact BY (by omega) (ab.zero _ (No _)) hv
      ·intro j hj;rw[jm f high (by omega)];exact ab.zero j (by omega)
      ·exact an.setCell (p:=⟨w.heap.size,k+q,none⟩) (No _) _
      ·have:=aA.out;simpa[World.setCell]using this
     case measure=>simp[intOf];omega
  ·obtain rfl:k=n:=by omega
   go_wp2;go_ret;refine⟨rfl,?_,HB.out,HS.out⟩;have hv:=HF.val;rw[Nat.zero_mul,Na,kW HV.out]at hv;refine(HF.row).congr fun i hi=>?_;rw[<-hv,vv (fun j _=>HF.lt j) i hi]
end
section
open Go.RowKit Bf
attribute [local go_sem ↓] Go.wp_at_zero Go.wp_at_succ
def CA(b n c i V:Nat)(w:World)(hV:V<18446744073709551616^n)(h:i<n->w.cell? ⟨b,i,none⟩=some (.int .u64 (word V i:Int))) :Calls prog 135 #[.slice b n c,.int .i64 i] w fun e w'=>e=.returned (.int .u64 (word V i:Int))/\w=w':=by
 by_cases hi:i<n
 ·exact vJ b n c i _ w hi (h hi)
 ·have e:word V i=0:=oK (Nf hV (Ng (by omega) (by omega)));rw[e];exact vK _ n c i w (by omega)
def CB(V s k:Nat):bits .or .u64 ((word V (k+s/64):Int)/2^(s%64)) (IntKind.u64.wrap ((word V (k+s/64+1):Int)*2^(64-s%64)))=((word (V/2^s) k:Nat):Int):=by
 rw[BV V s k];have h1:=dD V (k+s/64);generalize word V (k+s/64)=a at *;generalize word V (k+s/64+1)=b at *;have e1:(a:Int)/2^(s%64)=((a >>> (s%64):Nat):Int):=by rw[Nat.shiftRight_eq_div_pow];simp
 have e2:IntKind.u64.wrap ((b:Int)*2^(64-s%64))=(((b <<< (64-s%64))%18446744073709551616:Nat):Int):=by
  rw[Nat.shiftLeft_eq,NA];have:(b:Int)*2^(64-s%64)=((b*2^(64-s%64):Nat):Int):=by simp
  rw[this];omega
 rw[e1,e2,bits_or_u64_nat _ _ ?_ (Ni _ (by omega))];rw[Nat.shiftRight_eq_div_pow];exact Nt (NH _ _) h1
def CC{w}{g N k:Nat}{F f:Nat->Nat}(h:Row w g N (mix k F f))(v:Int)(hv:v=(F k:Int)):Row (w.setCell ⟨g,k,none⟩ (.int .u64 v)) g N (mix (k+1) F f):=by
 refine(h.set k v hv).congr fun i _=>?_;by_cases e:i=k
 ·rw[if_pos e,e];simp[mix]
 ·rw[if_neg e];have:(i<k+1)=(i<k):=by apply propext;omega
  simp[mix,this]
def CD{a w:World}{g:Nat}(h:a.grownBy w (some g))(k:Nat)(u):a.grownBy (w.setCell ⟨g,k,none⟩ u) (some g):=
 ⟨h.os,h.tape,h.output,by have:=h.size;simpa[World.setCell]using this,fun i hi ab=>(NF _ _ _ _ (by simp at ab⊢;omega)).trans (h.block i hi ab)⟩
def CE{a w:World}{row:Option Nat}(h:a.grownBy w row):a.grownBy w.drew row:=⟨h.os,h.tape,h.output,h.size,h.block⟩
def shift_any(g N n c V s:Nat)(f:Nat->Nat)(w)(hV:V<18446744073709551616^n)(hf:∀j,j<n->f j=word V j)(hN:n<=N)(hn:n<=65536)(hc:n<=c)(hs:s<=4194304)(hg:Row w g N f) :Calls prog 96 #[.slice g n c,.int .i64 s] w fun e w'=>e=.returned (.slice g (wlen (V/2^s)) c)/\Row w' g N (mix n (word (V/2^s)) f)/\w.grownBy w' (some g)/\w'.heap.size=w.heap.size:=by
 have HV:=MY hV;have HG:=MY hg;have HF:=MY hf;clear hV hg hf;go_enter func96,ntmps96;go_wp2;go_loopw [14] (fun i wr=>∃k:Nat,k<=n/\i=.int .i64 k/\Row wr g N (mix k (word (V/2^s)) f)/\w.grownBy wr (some g)/\wr.heap.size=w.heap.size) (fun i _=>n-(intOf i).toNat)
 case atStart=>
  refine⟨0,Nu _,rfl,?_,World.grownBy.refl _ _,rfl⟩;exact(HG.out).congr fun i _=>by simp[mix]
 case round=>
  obtain⟨k,hk,rfl,ac,al,an⟩:=hrel;have HR:=MY ac;have ad:=MY al;have HS:=MY an;clear ac al an;by_cases av:k<n
  ·have ag:=Row.cell HR.out (i:=k) (by omega);have ar:=Row.frozen HR.out k;have HW:=MY (fun(W:World)(z:Int) (hz:(k:Int)<=z) (hW:Row W g N (mix k (word (V/2^s)) f))=>show Calls prog 135 #[.slice (some ⟨g,0,none⟩) n c,.int .i64 z] W (fun e w'=>e=.returned (.int .u64 (word V z.toNat:Int))/\W=w')from by
    obtain⟨i,rfl⟩:=Int.eq_ofNat_of_zero_le (show 0<=z from by omega);rw[NI];exact CA g n c i V W HV.out (fun ao=>by
     have:=Row.cell hW (i:=i) (by omega);rw[this];simp[mix,show ¬i<k from by omega,HF.out i ao]))
   have e4:((k:Int)+(s:Int)/64).toNat=k+s/64:=by omega
   have e5:((k:Int)+(s:Int)/64+1).toNat=k+s/64+1:=by omega
   have e1:IntKind.i64.wrap ((k:Int)+(s:Int)/64)=(k:Int)+(s:Int)/64:=by rw[NC];omega
   have e2:IntKind.i64.wrap ((k:Int)+(s:Int)/64+1)=(k:Int)+(s:Int)/64+1:=by rw[NC];omega
   have e3:IntKind.i64.wrap (64-(s:Int)%64)=64-(s:Int)%64:=by rw[NC];omega
   go_wp2_with fail;go_region_with (go_at_call 135;refine(HW.out _ _ (by omega) (by exact HR.out)).mono ?_;rintro e w1 ⟨rfl,rfl⟩);go_wp2;go_roundw
   case rel=>
    refine⟨k+1,by omega,by go_num,Row.drew (CC HR.out _ (CB V s k)),CE (CD ad.out _ _),?_⟩;have:=HS.out;simpa[World.setCell]using this
   case measure=>simp[intOf];omega
  ·obtain rfl:k=n:=by omega
   have ab:V/2^s<18446744073709551616^k:=Nt (NH _ _) HV.out;have HT:=MY (vI g k c (V/2^s) wr ab (by omega) hc (fun j hj=>by
    have:=Row.cell HR.out (i:=j) (by omega);rw[this];simp[mix,hj]))
   clear ab;go_wp2_with (go_at_call 136;refine HT.mono ?_;rintro e w1 ⟨rfl,rfl⟩);go_ret;exact⟨rfl,HR.out,ad.out,HS.out⟩
end
section
open Go.RowKit Bf
def CF:Go.Shelf.Ren:=⟨fun|129=>217|n=>n,fun|3=>3|4=>4|5=>5|9=>9|46=>249|53=>174|n=>n,fun n=>n⟩
def CG:Lays.n129 prog CF:={mixed:=by kernel_rfl,f129:=by kernel_rfl,t3:=by kernel_rfl,a3:=fun _=>by kernel_rfl,z3:=fun _=>by kernel_rfl,v3:=fun _=>by kernel_rfl,t4:=by kernel_rfl,a4:=fun _=>by kernel_rfl,z4:=fun _=>by kernel_rfl,v4:=fun _=>by kernel_rfl,t5:=by kernel_rfl,a5:=fun _=>by kernel_rfl,z5:=fun _=>by kernel_rfl,v5:=fun _=>by kernel_rfl,t9:=by kernel_rfl,a9:=fun _=>by kernel_rfl,z9:=fun _=>by kernel_rfl,v9:=fun _=>by kernel_rfl,t46:=by kernel_rfl,a46:=fun _=>by kernel_rfl,z46:=fun _=>by kernel_rfl,v46:=fun _=>by kernel_rfl,t53:=by kernel_rfl,a53:=fun _=>by kernel_rfl,z53:=fun _=>by kernel_rfl,v53:=fun _=>by kernel_rfl}
def rP(x:Int)(w)(h0:0<=x)(h1:x<=18446744073709551615) :Calls prog 217 #[.int .u64 x] w fun e w'=>e=.returned (.int .i64 (Lib.bitLen x.toNat))/\w=w':=
 (Any.bits_Len64 CG x w h0 h1).mono fun _ _ ⟨h,h'⟩=>⟨h,h'.symm⟩
def rQ{x:Nat}(h0:x≠0)(h:x<18446744073709551616):1<=Lib.bitLen x/\Lib.bitLen x<=64/\2^(Lib.bitLen x-1)<=x/\x<2^Lib.bitLen x:=by
 obtain⟨a,b,c⟩:=Lib.bitLenAux_bounds 64 x h h0;exact⟨a,Lib.bitLen_le x 64 (No _) h,b,c⟩
def CH(x:Nat)(w)(h0:x≠0)(h:x<18446744073709551616) :Calls prog 216 #[.int .u64 (x:Int)] w fun e w'=>e=.returned (.int .i64 (64-(Lib.bitLen x:Int)))/\w=w':=by
 have HC:=MY (rP (x:Int) w (by omega) (by omega));rw[NI]at HC;obtain⟨b1,b2,_,_⟩:=rQ h0 h;generalize Lib.bitLen x=L at *;go_enter func216,ntmps216;go_wp2_with (go_at_call 217;refine HC.mono ?_;rintro e w1 ⟨rfl,rfl⟩);go_ret;exact⟨rfl,rfl⟩
def Tab(w:World):Prop:=0<w.heap.size/\∀j,j<64->w.cell? ⟨0,j,none⟩=some (.int .u8 ((Lib.deBruijn64tab.getD j 0:Nat):Int))
def Tab.below{w w'}(h:Tab w)(hb:eB w w'):Tab w':=
 ⟨Nf h.1 hb.size,fun j hj=>(hb.cell (p:=⟨0,j,none⟩) h.1).trans (h.2 j hj)⟩
def Tab.drewN{w}(h:Tab w)(n:Nat):Tab (w.drewN n):=h
def Tab.drew{w}(h:Tab w):Tab w.drew:=h
def CI(x a:Nat)(hx:x<18446744073709551616)(ac:x≠0)(ab:x &&&(18446744073709551616-x)=a) :IntKind.u64.wrap (bits BinOp.and IntKind.u64 (x:Int) (IntKind.u64.wrap (-(x:Int)))*285870213051353865)/288230376151711744=((a*285870213051353865%18446744073709551616/288230376151711744:Nat):Int):=by
 have e1:IntKind.u64.wrap (-(x:Int))=((18446744073709551616-x:Nat):Int):=by rw[NA];omega
 rw[e1,bits_and_u64_nat x _ hx (by omega),ab,NA];omega
def CJ(x k idx:Nat)(w:World)(ac:((x:Int)==0)=false)(key:IntKind.u64.wrap (bits BinOp.and IntKind.u64 (x:Int) (IntKind.u64.wrap (-(x:Int)))*285870213051353865)/288230376151711744=(idx:Int))(hi:idx<64)(hk:k<64)(ab:w.cell? ⟨0,idx,none⟩=some (.int .u8 k)) :Calls prog 134 #[.int .u64 x] w fun e w'=>e=.returned (.int .i64 k)/\w=w':=by
 go_enter func134,ntmps134;go_wp2_with (simp only[key]);go_ret;exact⟨rfl,rfl⟩
def CK{x:Nat}(h0:x≠0)(h:x<18446744073709551616):Lib.ctz 64 x=tz x:=by
 obtain⟨m,hm,_⟩:=Lib.ctzFrom_spec 64 x (by omega) h;have e:Lib.ctz 64 x=Lib.ctzFrom 64 x:=by simp[Lib.ctz,h0]
 rw[e];exact(vA hm (by omega)).symm
def CL(x:Nat)(w)(h0:x≠0)(h:x<18446744073709551616)(hT:Tab w) :Calls prog 134 #[.int .u64 (x:Int)] w fun e w'=>e=.returned (.int .i64 (tz x:Int))/\w=w':=by
 obtain⟨ac,hk⟩:=Lib.lowest_bit 64 x h0 h;obtain⟨hi,ad⟩:=Lib.deBruijn64_at _ hk;have ab:=hT.2 _ hi;rw[ad]at ab;rw[CK h0 h]at *;exact CJ x _ _ w (by simp;omega) (CI x _ h h0 ac) hi hk ab
def vW(b n c V:Nat)(w)(hV:bz n V)(hn:n<=65536)(h:Wds w b n V) :Calls prog 156 #[.slice b n c] w fun e w'=>e=.returned (.int .i64 (nbits V:Int))/\w=w':=by
 rcases Nc n with h0|h0
 ·subst h0;obtain rfl:V=0:=(iJ hV).1 rfl;clear hV h;have e:((nbits 0:Nat):Int)=0:=rfl;rw[e];clear e;go_enter func156,ntmps156;go_wp2;go_ret;exact⟨rfl,rfl⟩
 ·obtain⟨m,rfl⟩:∃m,n=m+1:=⟨n-1,by omega⟩
  have ag:=BP hV;have ad:=dD V m;obtain⟨b1,b2,b3,b4⟩:=rQ (x:=word V m) (by omega) ad;have ab:=Cm hV.1 b1 b3 b4;have HF:=MY ab;have HC:=MY (rP (word V m:Int) w (by omega) (by omega));rw[NI]at HC;have ac:=h m (by omega);clear ab h hV b3 b4;generalize Lib.bitLen (word V m)=L at *;generalize word V m=x at *;have e1:((m+1:Nat):Int)-1=(m:Int):=by omega
  have t0:(((m+1:Nat):Int)==0)=false:=by simp;omega
  go_enter func156,ntmps156;go_wp2_with (go_at_call 217;refine HC.mono ?_;rintro e w1 ⟨rfl,rfl⟩);go_ret;refine⟨?_,rfl⟩;rw[HF.out,Int.natCast_add,NG];rfl
def kX(b n c V:Nat)(w)(hV:V<18446744073709551616^n)(h0:V≠0)(hn:n<=65536)(h:Wds w b n V)(hT:Tab w) :Calls prog 94 #[.slice b n c] w fun e w'=>e=.returned (.int .i64 (tz V:Int))/\w=w':=by
 have HV:=MY hV;have H:=MY h;have HT:=MY hT;have H0:=MY h0;clear hV h hT h0;go_enter func94,ntmps94;go_wp2;go_loop [3] (fun i=>∃k:Nat,i=.int .i64 k/\k<n/\Hid (∀j,j<k->word V j=0)) (fun i=>n-(intOf i).toNat)
 case atStart=>
  refine⟨0,rfl,?_,fun j hj=>by omega⟩;rcases Nc n with e|e
  ·exfalso;subst e;have:=HV.out;have:=H0.out;simp at *;omega
  ·exact e
 case round=>
  obtain⟨k,rfl,hk,HZ⟩:=hrel;have ab:=H.out k hk;by_cases hz:word V k=0
  ·rw[hz]at ab;have ad:k+1<n:=by
    rcases Nh (k+1) n with h|h
    ·exact h
    ·exfalso;obtain rfl:n=k+1:=by omega
     have:=rM (V:=V) (j:=k+1) (fun i hi=>by
      by_cases e:i=k
      ·rw[e];exact hz
      ·exact HZ.out i (by omega))
     rw[Nk HV.out]at this;exact H0.out this
   have ac:Hid (∀j,j<k+1->word V j=0):=fun j hj=>by
    by_cases e:j=k
    ·rw[e];exact hz
    ·exact HZ.out j (by omega)
   clear hz;go_wp2;go_round
   case rel=>exact⟨k+1,by go_num,ad,ac⟩
   case measure=>simp[intOf];omega
  ·have HF:=MY (Ck HZ.out hz);have HC:=MY (CL (word V k) w hz (dD V k) HT.out);have ag:=Cn hz (dD V k);have t1:((word V k:Int)==0)=false:=by simp;omega
   generalize tz (word V k)=t at *;generalize word V k=x at *;clear hz;go_wp2_with (go_at_call 134;refine HC.mono ?_;rintro e w1 ⟨rfl,rfl⟩);go_ret;refine⟨?_,rfl⟩;rw[HF.out,Int.natCast_add,NG];rfl
def CM(a:Addr)(n:Nat):(a.add n).block=a.block:=by unfold Addr.add;split <;> rfl
def bj(w:World)(B size:Nat)(A:Option Addr)(n:Nat)(xs:List Value):Prop:=
 xs.length=n*size/\(0<n->∃ad,A=some ad/\ad.block<B/\∀j u,xs[j]? = some u->w.cell? (ad.add j)=some u)
section
variable {w w':World} {B B' size n:Nat} {A:Option Addr} {xs:List Value}
def bj.keep(h:bj w B size A n xs)(hk:∀p:Addr,p.block<B->w'.cell? p=w.cell? p):bj w' B size A n xs:=
 ⟨h.1,fun hn=>by
  obtain⟨ad,e,hb,hc⟩:=h.2 hn;exact⟨ad,e,hb,fun j u hu=>(hk _ (by rw[CM];exact hb)).trans (hc j u hu)⟩⟩
def bj.more(h:bj w B size A n xs)(hB:B<=B'):bj w B' size A n xs:=
 ⟨h.1,fun hn=>by
  obtain⟨ad,e,hb,hc⟩:=h.2 hn;exact⟨ad,e,by omega,hc⟩⟩
def bj.below(h:bj w B size A n xs)(hb:Below B w w'):bj w' B size A n xs:=h.keep fun _ hp=>hb.cell hp
def bj.drew(h:bj w B size A n xs):bj w.drew B size A n xs:=h
def bj.alloc(h:bj w B size A n xs)(hB:B<=w.heap.size)(o:Obj):bj (w.alloc o) B size A n xs:=h.keep fun p hp=>NJ w o p (by omega)
def bj.setCell(h:bj w B size A n xs){p:Addr}(hB:B<=p.block)(u):bj (w.setCell p u) B size A n xs:=
 h.keep fun q hq=>NK w p q u (fun e=>by subst e;omega)
def bj.grown(h:bj w B size A n xs){row:Option Nat}(hg:w.grownBy w' row)(hB:B<=w.heap.size)(hr:∀g,row=some g->B<=g):bj w' B size A n xs:=
 h.keep fun p hp=>NL (hg.block p.block (by omega) (fun e=>by have:=hr _ e.symm;omega))
end
section
variable {P:Program} (w:World)
def CO(base:Nat)(t ty e)(i:TypeInfo)(size:Nat)(ht:P.underlying t=some (.slice e))(hi:P.info? e=some i)(v)(n:Nat)(xs)(ab:w.ownsRow base e size v n xs)(c:Nat):(Builtin.append_ #[t,t] ty #[v,.slice none 0 c]).run P w=.ok v w:=by
 rcases ab.2 with⟨rfl,rfl⟩|⟨g,cap,cur,rfl,_,_,ac,_⟩
 ·simp[Builtin.append_,run_underlying ht,sizeOf,typeInfo,hi,Builtin.lenOf,Builtin.firstCells]
 ·simp[Builtin.append_,run_underlying ht,sizeOf,typeInfo,hi,Builtin.lenOf,Builtin.firstCells,ac,storeCells]
def vX(base:Nat)(t ty e)(i:TypeInfo)(z)(size bytes:Nat)(ht:P.underlying t=some (.slice e))(hi:P.info? e=some i)(hz:i.zero=some z)(an:i.size=size)(av:i.bytes=bytes)(aA:z.cells.size=size)(ax:0<size)(v)(n:Nat)(xs)(ag:w.ownsRow base e size v n xs)(B:Nat)(A)(m c:Nat)(news)(hr:bj w B size A m news)(h1:∀u∈news,u.oneCell'=true)(ar:n+m<=maxLen)(ab:(n+m)*bytes<=140737488355328)(al:base<=w.heap.size) :∃v' w',(Builtin.append_ #[t,t] ty #[v,.slice A m c]).run P w=.ok v' w'/\w'.ownsRow base e size v' (n+m) (xs++news)/\w.grownBy w' v.ownBlock/\(v'.ownBlock=v.ownBlock\/v'.ownBlock=some w.heap.size):=by
 rcases A with _|ad
 ·have hm:m=0:=by
   rcases Nc m with h0|h0
   ·exact h0
   ·obtain⟨ad,h,_⟩:=hr.2 h0
    cases h
  subst hm;have hn:news=[]:=Nb (by simpa using hr.1);subst hn;exact⟨v,w,CO w base t ty e i size ht hi v n xs ag c,by simpa using ag,World.grownBy.refl w _,.inl rfl⟩
 ·have ac:∀j u,news[j]? = some u->w.cell? (ad.add j)=some u:=by
   intro j u hu;rcases Nc m with h0|h0
   ·subst h0;have hn:news=[]:=Nb (by simpa using hr.1);subst hn;simp at hu
   ·obtain⟨ba,h,_,hc⟩:=hr.2 h0;injection h with h;subst h;exact hc j u hu
  obtain⟨v',w',ao,h2,h3,_,h5⟩:=run_append_own_at (P:=P) w base t ty e i z size bytes ht hi hz an av aA ax v n xs ag ad m c news hr.1 ac h1 ar ab al;exact⟨v',w',ao,h2,h3,h5⟩
def jY{o:Oper}{a:Act}{K:Act->World->Prop}{Q:Exit->Act->World->Prop}(s x)(t)(ho:o.op=.call {callee:= .builtin .append,args:=#[s,x],argTypes:=#[t,t]})(base:Nat)(e)(i:TypeInfo)(z)(size bytes:Nat)(ht:P.underlying t=some (.slice e))(hi:P.info? e=some i)(hz:i.zero=some z)(ad:i.size=size)(ao:i.bytes=bytes)(av:z.cells.size=size)(ar:0<size)(v)(n:Nat)(xs)(hs:a.eval s=v)(ag:w.ownsRow base e size v n xs)(B:Nat)(A)(m c:Nat)(news)(hx:a.eval x=.slice A m c)(hr:bj w B size A m news)(h1:∀u∈news,u.oneCell'=true)(an:n+m<=maxLen)(ab:(n+m)*bytes<=140737488355328)(ac:base<=w.heap.size)(h:∀v' w',w'.ownsRow base e size v' (n+m) (xs++news)->w.grownBy w' v.ownBlock->(v'.ownBlock=v.ownBlock\/v'.ownBlock=some w.heap.size)->K (a.put o.dst v') w'):o.wp P a w K Q:=by
 obtain⟨v',w',al,h2,h3,h4⟩:=vX (P:=P) w base t o.type e i z size bytes ht hi hz ad ao av ar v n xs ag B A m c news hr h1 an ab ac;unfold Oper.wp execOp;simp only[ho,resolve,invoke,builtin,NM,NN,NO,List.map_toArray,NP,List.map_nil,hs,hx,al];exact h v' w' h2 h3 h4
def CP{ops}{rest}{o:Oper}{a:Act}{Q}(ao:o.guard=none)(s x)(t)(ho:o.op=.call {callee:= .builtin .append,args:=#[s,x],argTypes:=#[t,t]})(base:Nat)(e)(i:TypeInfo)(z)(size bytes:Nat)(ht:P.underlying t=some (.slice e))(hi:P.info? e=some i)(hz:i.zero=some z)(ad:i.size=size)(an:i.bytes=bytes)(av:z.cells.size=size)(ar:0<size)(v)(n:Nat)(xs)(hs:a.eval s=v)(ag:w.ownsRow base e size v n xs)(B:Nat)(A)(m c:Nat)(news)(hx:a.eval x=.slice A m c)(hr:bj w B size A m news)(h1:∀u∈news,u.oneCell'=true)(al:n+m<=maxLen)(ab:(n+m)*bytes<=140737488355328)(ac:base<=w.heap.size)(h:∀v' w',w'.ownsRow base e size v' (n+m) (xs++news)->w.grownBy w' v.ownBlock->(v'.ownBlock=v.ownBlock\/v'.ownBlock=some w.heap.size)->wpList P ops Q rest (a.put o.dst v') w'):wpList P ops Q (o::rest) a w:=
 wpList_plain ao fun _ hK=>jY w s x t ho base e i z size bytes ht hi hz ad an av ar v n xs hs ag B A m c news hx hr h1 al ab ac fun v' w' h2 h3 h4=>hK _ _ (h v' w' h2 h3 h4)
end
def CQ{w:World}{b n V:Nat}(hb:b<w.heap.size)(h:Wds w b n V):bj w w.heap.size 1 (some ⟨b,0,none⟩) n ((List.range n).map fun j=>Value.int .u64 (word V j:Int)):=by
 refine⟨by simp,fun _=>⟨_,rfl,hb,fun j u hu=>?_⟩⟩;have hj:j<n:=by
  have:=(NQ.1 hu).1;simpa using this
 have e:(⟨b,0,none⟩:Addr).add j=⟨b,j,none⟩:=by unfold Addr.add;split <;> simp_all
 rw[e,h j hj];simpa[hj]using hu
def CR{w:World}{base n V:Nat}{v}(h:w.ownsRow base 174 1 v n ((List.range n).map fun j=>Value.int .u64 (word V j:Int)))(hv:v≠ .slice none 0 0) :∃g cap,v=.slice (some ⟨g,0,none⟩) n cap/\base<=g/\n<=cap/\Row w g n (word V):=by
 rcases h.2 with⟨rfl,_⟩|⟨g,cap,cur,rfl,h1,h2,h3,_,h5,h6⟩
 ·exact absurd rfl hv
 ·refine⟨g,cap,rfl,h1,h3,cur,h2,by omega,fun i hi=>?_⟩;have:(cur.toList.take (n*1))[i]? = some (.int .u64 (word V i:Int)):=by rw[h6];simp[hi]
  rw[NR,if_pos (by omega)]at this;simpa using this
def rS(b n c V:Nat)(w:World)(hn:n<=65536)(hb:b<w.heap.size)(h:Wds w b n V) :Calls prog 95 #[.slice b n c] w fun e w'=>∃g cap,e=.returned (.slice (some ⟨g,0,none⟩) n cap)/\w.heap.size<=g/\n<=cap/\Row w' g n (word V)/\eB w w':=by
 obtain⟨i0,ag,al,an,ao⟩:=info_parts vL;have H:=MY h;clear h;have ar:∀W:World,(binOp .eql 114 (.slice b n c) (.slice none 0 0)).run prog W=.ok (.bool false) W:=fun W=>by
  have:=Lib.run_eql_slice_nil (P:=prog) W 114 174 (some ⟨b,0,none⟩) n c 0 0 underlying114;simpa using this
 go_enter func95,ntmps95;go_wp2_with (at_builtin;refine CP _ rfl _ _ _ rfl w.heap.size 174 i0 _ 1 8 underlying114 ag al an ao rfl (by omega) (.slice w.heap.size 0 0) 0 [] rfl ?_ (w.heap.size+1) (some ⟨b,0,none⟩) n c ((List.range n).map fun j=>Value.int .u64 (word V j:Int)) rfl ?_ ?_ ?_ ?_ ?_ ?_)
 ·exact⟨rfl,.inr ⟨_,_,#[],rfl,No _,heap_alloc_new w _,No _,by simp[maxLen],rfl,rfl⟩⟩
 ·exact((CQ hb H.out).alloc (No _) _).more (by omega)
 ·intro u hu;simp at hu;obtain⟨_,_,rfl⟩:=hu;rfl
 ·simp only[maxLen];omega
 ·omega
 ·simp
 ·intro v' w1 ab hg ac;have ad:v'≠ .slice none 0 0:=by
   rintro rfl;rcases ac with e|e <;> simp[Value.ownBlock]at e
  obtain⟨g,cap,rfl,h1,h2,h3⟩:=CR ab ad;have HR:=MY h3;have HB:=MY (((NB w.heap.size w).alloc (No _) (.cells #[] 174)).grown hg (by simp) (by simp[Value.ownBlock]));clear ab hg ac h3 ad;go_wp2;go_ret;exact⟨g,cap,rfl,h1,h2,HR.out,HB.out⟩
def Wds.below{w w'}{b n V B:Nat}(h:Wds w b n V)(hb:Below B w w')(hB:b<B):Wds w' b n V:=fun j hj=>(hb.cell (p:=⟨b,j,none⟩) hB).trans (h j hj)
def Wds.grown{w w'}{b n V:Nat}{row:Option Nat}(h:Wds w b n V)(hg:w.grownBy w' row)(hr:some b≠row):Wds w' b n V:=fun j hj=>hg.cell (h j hj) hr
def Row.wds_of{w}{b N n V:Nat}{f:Nat->Nat}(h:Row w b N f)(hn:n<=N)(hf:∀j,j<n->f j=word V j):Wds w b n V:=fun j hj=>by rw[h.cell (by omega),hf j hj]
def kY{w w' w''}{g B:Nat}(h:Below B w w')(hg:w'.grownBy w'' (some g))(hB:B<=g)(hs:B<=w'.heap.size):Below B w w'':=h.grown hg hs (fun k e=>by cases e;exact hB)
def Tab.grown{w w'}{g:Nat}(h:Tab w)(hg:w.grownBy w' (some g))(ab:0≠g):Tab w':=
 ⟨Nf h.1 hg.size,fun j hj=>hg.cell (h.2 j hj) (by simp;exact ab)⟩
def mO(w':World)(v:Value)(V:Nat):Prop:=∃g k cap,v=.slice (some ⟨g,0,none⟩) k cap/\V<18446744073709551616^k/\k<=65536/\k<=cap/\g<w'.heap.size/\Wds w' g k V
def mP(w:World)(G:Nat)(e:Ending)(w':World):Prop:=∃v,e=.returned v/\mO w' v G/\eB w w'
def vY(b b' m c c' U:Nat)(w:World)(hU:U<18446744073709551616^m)(hm:m<=65536)(hc:m<=c')(hb:b'<w.heap.size)(h':Wds w b' m U) :Calls prog 48 #[.slice b 0 c,.slice b' m c'] w (mP w U):=by
 have H:=MY (show mO w (.slice b' m c') U from⟨_,_,_,rfl,hU,hm,hc,hb,h'⟩);clear hU h';go_enter func48,ntmps48;go_wp2;go_ret;exact⟨_,rfl,H.out,NB _ _⟩
def CS(b b' n c c' V:Nat)(w:World)(hV:V<18446744073709551616^n)(hn:n<=65536)(hc:n<=c)(hb:b<w.heap.size)(hb':b'<w.heap.size)(h:Wds w b n V) :Calls prog 48 #[.slice b n c,.slice b' 0 c'] w (mP w (Nat.gcd V 0)):=by
 rw[Nat.gcd_zero_right];have H:=MY (show mO w (.slice b n c) V from⟨_,_,_,rfl,hV,hn,hc,hb,h⟩);rcases Nc n with h0|h0
 ·subst h0;have hz:V=0:=by simpa using hV
  subst hz;exact(vY b b' 0 c c' 0 w (by simp) (by omega) (by omega) hb' (fun j hj=>by omega)).mono fun _ _ h=>h
 ·have t0:((n:Int)==0)=false:=by simp;omega
  clear hV h;go_enter func48,ntmps48;go_wp2;go_ret;exact⟨_,rfl,H.out,NB _ _⟩
def CT(b b' c c' V U:Nat)(w)(hV:V<18446744073709551616)(hU:U<18446744073709551616)(h:Wds w b 1 V)(h':Wds w b' 1 U) :Calls prog 48 #[.slice b 1 c,.slice b' 1 c'] w (mP w (Nat.gcd V U)):=by
 have ac:=h 0 (by omega);have hc2:=h' 0 (by omega);rw[jT,Nk hV]at ac;rw[jT,Nk hU]at hc2;clear h h';go_enter func48,ntmps48;go_wp2;go_quiet (fail);go_wp2;go_loopw [5,6] (fun x y wr=>∃a b:Nat,x=.int .u64 (a:Int)/\y=.int .u64 (b:Int)/\a<18446744073709551616/\b<18446744073709551616/\Hid (Nat.gcd a b=Nat.gcd V U)/\eB w wr) (fun _ y _=>(intOf y).toNat)
 case atStart=>exact⟨V,U,rfl,rfl,hV,hU,rfl,⟨rfl,rfl,rfl,No _,fun _ _=>rfl⟩⟩
 case round=>
  obtain⟨x,y,rfl,rfl,hx,hy,HG,ab⟩:=hrel;have HB:=MY ab;clear ab ac hc2;by_cases ad:y=0
  ·subst ad;clear hy;go_wp2;go_ret;have hg:=HG.out;rw[Nat.gcd_zero_right]at hg;rw[<-hg];refine⟨_,rfl,⟨wr.heap.size,1,1,rfl,by simpa using hx,by omega,No _,by simp,fun j hj=>?_⟩,HB.alloc HB.size _⟩;obtain rfl:j=0:=by omega
   rw[jT,Nk hx];simp[go_sem]
  ·have t1:((y:Int) != 0)=true:=by simp;omega
   have t2:1<=(y:Int):=by omega
   go_wp2;go_quiet (fail);go_wp2;go_roundw
   case rel=>
    refine⟨y,x%y,rfl,by rw[Int.natCast_emod],hy,Nt (NS (Ni _ (by omega))) hy,?_,?_⟩
    ·show Nat.gcd y (x%y)=_;rw[<-HG.out,Nat.gcd_comm y,<-Nat.gcd_rec,Nat.gcd_comm]
    ·exact⟨HB.os,HB.tape,HB.output,HB.size,HB.block⟩
   case measure=>
    simp[intOf];exact Ni _ (by omega)
def vZ(w wr:World)(G k:Nat)(va vb:Value):Prop:=∃ga gb na nb ca cb A B,va=.slice (some ⟨ga,0,none⟩) na ca/\vb=.slice (some ⟨gb,0,none⟩) nb cb/\A+B<=k/\
 ga≠gb/\w.heap.size<=ga/\w.heap.size<=gb/\na<=4096/\nb<=4096/\na<=ca/\nb<=cb/\Row wr ga na (word A)/\Row wr gb nb (word B)/\bz na A/\bz nb B/\A%2=1/\B%2=1/\Nat.gcd A B=G/\eB w wr/\Tab wr
def wa{A B:Nat}(h:B<A)(hA:A%2=1)(hB:B%2=1):A-B≠0/\((A-B)/2^tz (A-B))%2=1/\Nat.gcd ((A-B)/2^tz (A-B)) B=Nat.gcd A B/\(A-B)/2^tz (A-B)+B<A+B:=by
 have h0:0<A-B:=by omega
 obtain⟨e,o⟩:=jU h0;have ht:1<=tz (A-B):=by
  rcases Nc (tz (A-B))with h|h
  ·rw[h]at o e;simp at o;omega
  ·exact h
 have ab:(A-B)/2^tz (A-B)<=A-B:=NH _ _;refine⟨by omega,o,?_,?_⟩
 ·rw[<-Cc (NS h)];generalize (A-B)/2^tz (A-B)=m at *;generalize tz (A-B)=t at *;rw[<-e,Nat.gcd_comm,Nat.gcd_comm _ B,rK hB]
 ·omega
def oS{n V s:Nat}(h:V<18446744073709551616^n):bz (wlen (V/2^s)) (V/2^s)/\wlen (V/2^s)<=n:=by
 have h':V/2^s<18446744073709551616^n:=Nt (NH _ _) h;exact⟨mJ _,mL h'⟩
def oT{n V:Nat}(h:V<18446744073709551616^n)(h0:V≠0):tz V<=64*n:=by
 obtain⟨e,o⟩:=jU (n:=V) (by omega);generalize V/2^tz V=m at *;generalize tz V=t at *;rcases Nh (64*n) t with hl|hg
 ·exfalso;rw[fu]at h;have h1:2^(64*n)<=2^t:=Ng (by omega) (by omega);have h2:2^t*1<=2^t*m:=Nw _ (by omega);omega
 ·exact hg
def CU(t j:Nat):word (2^t) j=if j=t/64 then 2^(t%64)else 0:=by
 apply Nat.eq_of_testBit_eq;intro i;rw[dE,Nat.testBit_two_pow];by_cases e:j=t/64
 ·rw[if_pos e,Nat.testBit_two_pow];by_cases hi:i<64
  ·simp only[hi,decide_true,Np,decide_eq_decide];omega
  ·have:¬t%64=i:=by omega
   simp[hi,this]
 ·rw[if_neg e,Nat.zero_testBit];have:¬(i<64/\t=64*j+i):=by omega
  simpa[Bool.and_eq_false_iff,Classical.not_and_iff_not_or_not]using this
def wb(t:Nat):2^t<18446744073709551616^(t/64+1):=by
 rw[fu];exact Nat.pow_lt_pow_right (by omega) (by omega)
def CV(w:World)(t:Nat):Row (w.alloc (.cells ((madeCells #[.int .u64 0] (t/64+1)).setIfInBounds (t/64) (.int .u64 (IntKind.u64.wrap (2^(t%64))))) 174)) w.heap.size (t/64+1) (word (2^t)):=by
 refine⟨_,heap_alloc_new w _,by simp[size_madeCells],fun i hi=>?_⟩;have hv:IntKind.u64.wrap (2^(t%64))=((2^(t%64):Nat):Int):=by
  have h:2^(t%64)<=2^63:=Ng (by omega) (by omega);rw[NA,show(2:Int)^(t%64)=((2^(t%64):Nat):Int)from by simp];generalize 2^(t%64)=p at *;omega
 rw[hv,Array.getElem?_setIfInBounds,CU];by_cases e:t/64=i
 ·rw[if_pos e,if_pos e.symm,size_madeCells,if_pos (by omega)]
 ·rw[if_neg e,if_neg (fun h=>e h.symm)];simp[madeCells,hi,Nat.mod_one]
def CW(b b' n m c c' V U:Nat)(w:World)(hV:bz n V)(hU:bz m U)(hn:n<=4096)(hm:m<=4096)(h0:1<=n)(eD:1<=m)(h1:¬(n=1/\m=1))(hb:b<w.heap.size)(hb':b'<w.heap.size)(h:Wds w b n V)(h':Wds w b' m U)(hT:Tab w) :Calls prog 48 #[.slice b n c,.slice b' m c'] w (mP w (Nat.gcd V U)):=by
 have V0:V≠0:=fun e=>by have:=(iJ hV).2 e;omega
 have U0:U≠0:=fun e=>by have:=(iJ hU).2 e;omega
 obtain⟨eV,oV⟩:=jU (n:=V) (by omega);obtain⟨eU,oU⟩:=jU (n:=U) (by omega);have lV:=oT hV.1 V0;have lU:=oT hU.1 U0;have hG:Nat.gcd V U=2^min (tz V) (tz U)*Nat.gcd (V/2^tz V) (U/2^tz U):=by
  rw[<-Cb oV oU,eV,eU]
 have HG:=MY hG;have HV:=MY hV;have HU:=MY hU;have H:=MY h;have H':=MY h';have HT:=MY hT;have dy:=MY oV;have dv:=MY oU;have ds:=MY V0;have dr:=MY U0;clear hG hV hU h h' hT V0 U0 eV eU oV oU;have t0:((n:Int)==0)=false:=by simp;omega
 have fc:((m:Int)==0)=false:=by simp;omega
 have bv:(((n:Int)==1)=false)\/(((n:Int)==1)=true/\((m:Int)==1)=false):=by
  by_cases e:n=1
  ·refine .inr ⟨by simp[e],?_⟩;have:m≠1:=fun e'=>h1 ⟨e,e'⟩;simp;omega
  ·refine .inl ?_;simp;omega
 clear h1;rcases bv with t1|⟨t1,fe⟩
 all_goals
  go_enter func48,ntmps48
  go_wp2_with fail
  refine(kX b n c V w HV.1 ds.out (by omega) H.out HT.out).mono ?_
  rintro e w1 ⟨rfl,rfl⟩
  go_wp2_with fail
  refine(kX b' m c' U w HU.1 dr.out (by omega) H'.out HT.out).mono ?_
  rintro e w1 ⟨rfl,rfl⟩
  go_wp2_with fail
  refine(rS b n c V w (by omega) hb H.out).mono ?_
  rintro e w1 ⟨ga,ca,rfl,ev,cP,bi,cN⟩
  have ba:=MY bi
  have co:=MY cN
  have ed:=cN.size
  have bw:=bi.lt
  clear bi cN
  go_wp2_with fail
  refine(rS b' m c' U w1 (by omega) (by omega) (H'.below co.out hb')).mono ?_
  rintro e w2 ⟨gb,cb,rfl,ew,cR,bk,cl⟩
  have bc:=MY bk
  have cp:=MY (co.trans (cl.mono ed))
  have bb:=MY (ba.below cl bw)
  have eY:=cl.size
  have dd:=bk.lt
  clear bk cl
  have dT:ga≠gb:=by omega
  have cv:=MY (HT.below cp.out)
  go_wp2_with fail
  refine(kX ga n ca V w2 HV.1 ds.out (by omega) bb.wds cv.out).mono ?_
  rintro e w3 ⟨rfl,rfl⟩
  go_wp2_with fail
  refine(shift_any ga n n ca V (tz V) (word V) w2 HV.1 (fun _ _=>rfl) (No _) (by omega) cP (by omega) bb.out).mono ?_
  rintro e w3 ⟨rfl,cd,ad,bl⟩
  have bo:=MY (cd.congr (g:=word (V/2^tz V)) (fun i hi=>by simp[mix,hi]))
  have bd:=MY (bc.grown ad (by simp;omega))
  have di:=MY (kY cp.out ad (by omega) (by omega))
  have ci:0<w.heap.size:=HT.1
  have cw:=MY (cv.grown ad (by omega))
  clear cd ad
  have dk:=MY bl
  clear bl
  go_wp2_with fail
  refine(kX gb m cb U w3 HU.1 dr.out (by omega) bd.wds cw.out).mono ?_
  rintro e w4 ⟨rfl,rfl⟩
  go_wp2_with fail
  refine(shift_any gb m m cb U (tz U) (word U) w3 HU.1 (fun _ _=>rfl) (No _) (by omega) cR (by omega) bd.out).mono ?_
  rintro e w4 ⟨rfl,cf,cm,ez⟩
  have bt:=MY (cf.congr (g:=word (U/2^tz U)) (fun i hi=>by simp[mix,hi]))
  have bp:=MY (bo.grown cm (by simp;omega))
  have ef:=MY (kY di.out cm (by omega) (by have:=dk.out;omega))
  have eo:=MY (cw.grown cm (by omega))
  clear cf cm ez
  go_wp2_with fail
  obtain⟨lA,ee⟩:=oS (s:=tz V) HV.1
  obtain⟨lB,fb⟩:=oS (s:=tz U) HU.1
  have bm:=MY lA
  have el:=MY lB
  clear lA lB
  have dl:Hid (vZ w w4 (Nat.gcd (V/2^tz V) (U/2^tz U)) (V/2^tz V+U/2^tz U) (.slice ga (wlen (V/2^tz V)) ca) (.slice gb (wlen (U/2^tz U)) cb)):=
   ⟨ga,gb,_,_,ca,cb,_,_,rfl,rfl,No _,dT,by omega,by omega,by omega,by omega,by omega,by omega,bp.less (by omega),bt.less (by omega),bm.out,el.out,dy.out,dv.out,rfl,ef.out,eo.out⟩
  generalize ep:V/2^tz V=A0 at *
  generalize er:U/2^tz U=B0 at *
  clear bp bt bo bd bb ba bc cv cw co cp di dk dy dv ep er
  generalize tz V=tV at *
  generalize tz U=tU at *
  rw[show min (tV:Int) (tU:Int)=((min tV tU:Nat):Int)from by omega]
  have eS:min tV tU<=262144:=by omega
  generalize min tV tU=tw at *
  generalize es:Nat.gcd A0 B0=G at *
  clear es
  go_loopg [0,1] (A0+B0) (fun k va vb wr=>vZ w wr G k va vb)
  case atStart=>exact dl.out
  case round=>
   obtain⟨ga,gb,na,nb,ca,cb,A,B,rfl,rfl,hk,dT,ev,ew,eP,eR,cP,cR,bi,bk,hA,hB,oA,oB,bu,bh,ec⟩:=hrel
   have ba:=MY bi
   have bc:=MY bk
   have HA:=MY hA
   have HB:=MY hB
   have cC:=MY oA
   have cD:=MY oB
   have cq:=MY bu
   have ab:=MY bh
   have dn:=MY ec
   have hw:=bh.size
   have bw:=bi.lt
   have dd:=bk.lt
   clear bi bk hA hB oA oB bu bh ec dl
   have ag:=MY (jX ga gb na nb ca cb A B wr HA.out HB.out (by omega) (by omega) ba.wds bc.wds)
   rcases Nat.lt_trichotomy A B with bg|bg|bg
   ·rw[iK bg]at ag
    obtain⟨s0,s1,s2,s3⟩:=wa bg cD.out cC.out
    have S0:=MY s0
    have S1:=MY s1
    have S2:=MY s2
    have S3:=MY s3
    have ac:B-A<18446744073709551616^nb:=Nt (Nat.sub_le _ _) HB.1
    have ar:=MY ac
    have eC:=oT ac s0
    obtain⟨lA,ee⟩:=oS (s:=tz (B-A)) ac
    have bm:=MY lA
    clear s0 s1 s2 s3 ac lA
    go_wp2_with fail
    refine ag.mono ?_
    rintro e w1 ⟨rfl,q,rfl⟩
    go_wp2_with fail
    refine(oR gb ga nb nb na cb ca B A (word B) (wr.drewN q) HA.1 HB.1 (by omega) (fun _ _=>rfl) (No _) (by omega) (by omega) (bc.drewN q) (ba.drewN q).wds).mono ?_
    rintro e w2 ⟨rfl,bx,ax,ch⟩
    have bn:=MY (bx.congr (g:=word (B-A)) (fun i hi=>by simp[mix,hi]))
    have cx:=MY ((ba.drewN q).grown ax (by simp;omega))
    have al:=MY (kY (w':=wr.drewN q) (show eB w (wr.drewN q)from⟨ab.os,ab.tape,ab.output,ab.size,ab.block⟩) ax (by omega) hw)
    have ci:0<w.heap.size:=HT.1
    have ao:=MY ((dn.drewN q).grown ax (by omega))
    have av:w2.heap.size=wr.heap.size:=ch
    have cu:=MY av
    clear bx ax ch av
    go_wp2_with fail
    refine(kX gb nb cb (B-A) w2 ar.out S0.out (by omega) bn.wds ao.out).mono ?_
    rintro e w3 ⟨rfl,rfl⟩
    go_wp2_with fail
    refine(shift_any gb nb nb cb (B-A) (tz (B-A)) (word (B-A)) w2 ar.out (fun _ _=>rfl) (No _) (by omega) cR (by omega) bn.out).mono ?_
    rintro e w3 ⟨rfl,cc,ad,bl⟩
    have cr:=MY (cc.congr (g:=word ((B-A)/2^tz (B-A))) (fun i hi=>by simp[mix,hi]))
    have cz:=MY (cx.grown ad (by simp;omega))
    have an:=MY (kY al.out ad (by omega) (by have:=cu.out;omega))
    have be:=MY (ao.grown ad (by omega))
    clear cc ad bl
    go_wp2
    go_roundg ((B-A)/2^tz (B-A)+A)
    case measure=>have:=S3.out;omega
    case rel=>
     exact⟨gb,ga,_,_,cb,ca,_,_,rfl,rfl,No _,by omega,by omega,by omega,by omega,by omega,by omega,by omega,cr.less (by omega),cz.out,bm.out,HA.out,S1.out,cC.out,by rw[S2.out,Nat.gcd_comm];exact cq.out,an.out,be.out⟩
   ·subst bg
    rw[oQ]at ag
    have ex:∀W:World,(Instr.makeSlice 114 (.int .i64 ((tw:Int)/64+1)) (.int .i64 ((tw:Int)/64+1))).run prog W=.ok (.slice W.heap.size (tw/64+1) (tw/64+1)) (W.alloc (.cells (madeCells #[.int .u64 0] (tw/64+1)) 174)):=by
     intro W;have e:(tw:Int)/64+1=((tw/64+1:Nat):Int):=by omega
     rw[e];exact jV _ (by omega) W
    go_wp2_with fail
    refine ag.mono ?_
    rintro e w1 ⟨rfl,q,hq⟩
    have br:Hid (Row w1 ga na (word A)):=by rw[hq];exact ba.drewN q
    have ei:Hid (eB w w1):=by rw[hq];exact⟨ab.os,ab.tape,ab.output,ab.size,ab.block⟩
    have ed:wr.heap.size<=w1.heap.size:=by rw[hq];exact No _
    clear hq
    have aA:Row (w1.alloc (.cells (madeCells #[.int .u64 0] (tw/64+1)) 174)) w1.heap.size (tw/64+1) (fun _=>0):=Row.of_rowIs (World.rowIs_made w1 _ _ _)
    have et:(w1.alloc (.cells (madeCells #[.int .u64 0] (tw/64+1)) 174)).cell? ⟨w1.heap.size,tw/64,none⟩=some (.int .u64 0):=Row.cell aA (i:=tw/64) (by omega)
    have eu:=Row.frozen aA (tw/64)
    have cs:=MY aA
    clear aA
    go_wp2_with fail
    have eb:=CV w1 tw
    have em:=MY eb
    have bs:=MY (br.of_block (NT w1 (.cells ((madeCells #[.int .u64 0] (tw/64+1)).setIfInBounds (tw/64) (.int .u64 (IntKind.u64.wrap (2^(tw%64))))) 174) ga br.lt))
    refine(vV ga w1.heap.size na (tw/64+1) ca (tw/64+1) A (2^tw) _ HA.1 (wb tw) (by omega) (by omega) (by simp;omega) (by simp) bs.wds em.wds).mono ?_
    rintro e w5 ⟨rfl,cn,ea,eA⟩
    rw[NU]at cn
    have en:=MY cn
    have eg:=MY ((ei.alloc (by omega) _).trans (ea.mono (by simp;omega)))
    have df:=cn.lt
    clear eb cn ea eA et eu cs ex
    go_wp2
    go_ret
    refine⟨_,rfl,?_,eg.out⟩
    have db:Nat.gcd V U=A*2^tw:=by
     have:=cq.out;rw[Nat.gcd_self]at this;rw[HG.out,<-this,M8]
    rw[db]
    refine⟨_,_,_,rfl,?_,by omega,No _,df,en.wds⟩
    rw[Nn]
    exact Nat.mul_lt_mul'' HA.1 (wb tw)
   ·rw[jW bg]at ag
    obtain⟨s0,s1,s2,s3⟩:=wa bg cC.out cD.out
    have S0:=MY s0
    have S1:=MY s1
    have S2:=MY s2
    have S3:=MY s3
    have ac:A-B<18446744073709551616^na:=Nt (Nat.sub_le _ _) HA.1
    have ar:=MY ac
    have eC:=oT ac s0
    obtain⟨lA,ee⟩:=oS (s:=tz (A-B)) ac
    have bm:=MY lA
    clear s0 s1 s2 s3 ac lA
    go_wp2_with fail
    refine ag.mono ?_
    rintro e w1 ⟨rfl,q,rfl⟩
    go_wp2_with fail
    refine(oR ga gb na na nb ca cb A B (word A) (wr.drewN q) HB.1 HA.1 (by omega) (fun _ _=>rfl) (No _) (by omega) (by omega) (ba.drewN q) (bc.drewN q).wds).mono ?_
    rintro e w2 ⟨rfl,bx,ax,ch⟩
    have bn:=MY (bx.congr (g:=word (A-B)) (fun i hi=>by simp[mix,hi]))
    have cx:=MY ((bc.drewN q).grown ax (by simp;omega))
    have al:=MY (kY (w':=wr.drewN q) (show eB w (wr.drewN q)from⟨ab.os,ab.tape,ab.output,ab.size,ab.block⟩) ax (by omega) hw)
    have ci:0<w.heap.size:=HT.1
    have ao:=MY ((dn.drewN q).grown ax (by omega))
    have av:w2.heap.size=wr.heap.size:=ch
    have cu:=MY av
    clear bx ax ch av
    go_wp2_with fail
    refine(kX ga na ca (A-B) w2 ar.out S0.out (by omega) bn.wds ao.out).mono ?_
    rintro e w3 ⟨rfl,rfl⟩
    go_wp2_with fail
    refine(shift_any ga na na ca (A-B) (tz (A-B)) (word (A-B)) w2 ar.out (fun _ _=>rfl) (No _) (by omega) cP (by omega) bn.out).mono ?_
    rintro e w3 ⟨rfl,cc,ad,bl⟩
    have cr:=MY (cc.congr (g:=word ((A-B)/2^tz (A-B))) (fun i hi=>by simp[mix,hi]))
    have cz:=MY (cx.grown ad (by simp;omega))
    have an:=MY (kY al.out ad (by omega) (by have:=cu.out;omega))
    have be:=MY (ao.grown ad (by omega))
    clear cc ad bl
    go_wp2
    go_roundg ((A-B)/2^tz (A-B)+B)
    case measure=>have:=S3.out;omega
    case rel=>
     exact⟨ga,gb,_,_,ca,cb,_,_,rfl,rfl,No _,by omega,by omega,by omega,by omega,by omega,by omega,by omega,cr.less (by omega),cz.out,bm.out,HB.out,S1.out,cD.out,by rw[S2.out];exact cq.out,an.out,be.out⟩
def CY(b b' n m c c' V U:Nat)(w:World)(hV:bz n V)(hU:bz m U)(hn:n<=4096)(hm:m<=4096)(hc:n<=c)(ac:m<=c')(hb:b<w.heap.size)(hb':b'<w.heap.size)(h:Wds w b n V)(h':Wds w b' m U)(hT:Tab w) :Calls prog 48 #[.slice b n c,.slice b' m c'] w (mP w (Nat.gcd V U)):=by
 by_cases h0:n=0
 ·subst h0;obtain rfl:V=0:=(iJ hV).1 rfl;rw[Nat.gcd_zero_left];exact vY b b' m c c' U w hU.1 (by omega) ac hb' h'
 by_cases ab:m=0
 ·subst ab;obtain rfl:U=0:=(iJ hU).1 rfl;exact CS b b' n c c' V w hV.1 (by omega) hc hb hb' h
 by_cases h1:n=1/\m=1
 ·obtain⟨rfl,rfl⟩:=h1;exact CT b b' c c' V U w (by simpa using hV.1) (by simpa using hU.1) h h'
 ·exact CW b b' n m c c' V U w hV hU hn hm (by omega) (by omega) h1 hb hb' h h' hT
def Nat'(s:ByteArray):Prop:=eL s.data.toList
def cF(s:ByteArray):Prop:=Nat' s/\s.size<=256
def wd(s):Nat' s<->∀h:0<s.size,(s[0]'h).toNat≠0:=by
 unfold Nat' eL;rcases s with⟨⟨l⟩⟩
 cases l with
 |nil=>simp;intro h;cases h
 |cons c t=>
  simp only[List.head?_cons,ne_eq,Option.some.injEq]
  have e:∀h,(ByteArray.mk ⟨c::t⟩)[0]'h=c:=fun _=>rfl
  constructor
  ·intro h hs hc
   rw[e]at hc
   exact h (UInt8.toNat_inj.1 (by simpa using hc))
  ·intro h hc
   refine h (Nat.zero_lt_succ _) ?_
   rw[e,hc];rfl
open Classical in
noncomputable def chk(ss:Nat->ByteArray)(n:Nat):Int:=if ∃j,j<n/\¬Nat' (ss j)then 60 else if ∃j,j<n/\256<(ss j).size then 2 else 0
def we{ss:Nat->ByteArray}{n j:Nat}(hj:j<n)(h:¬Nat' (ss j)):chk ss n=60:=if_pos ⟨j,hj,h⟩
def wf{ss:Nat->ByteArray}{n j:Nat}(hn:∀j,j<n->Nat' (ss j))(hj:j<n)(h:256<(ss j).size):chk ss n=2:=by
 unfold chk;rw[if_neg (fun⟨j,hj,h⟩=>h (hn j hj)),if_pos ⟨j,hj,h⟩]
def jp{ss:Nat->ByteArray}{n:Nat}(h:∀j,j<n->cF (ss j)):chk ss n=0:=by
 unfold chk;rw[if_neg (fun⟨j,hj,h'⟩=>h' (h j hj).1),if_neg (fun⟨j,hj,h'⟩=>by have:=(h j hj).2;omega)]
def jZ(b n c:Nat)(ss:Nat->ByteArray)(w:World)(hn:n<=65536)(h:∀j,j<n->w.cell? ⟨b,j,none⟩=some (.string (ss j))) :Calls prog 46 #[.slice b n c] w fun e w'=>e=.returned (.int .i64 (chk ss n))/\w=w':=by
 have H:=MY h;clear h;go_enter func46,ntmps46;go_wp2;go_loop [9] (fun i=>∃k:Nat,i=.int .i64 k/\k<=n/\Hid (∀j,j<k->Nat' (ss j))) (fun i=>n-(intOf i).toNat)
 case atStart=>exact⟨0,rfl,Nu _,fun j hj=>by omega⟩
 case round=>
  obtain⟨k,rfl,hk,HK⟩:=hrel;by_cases an:k<n
  ·have ad:=H.out k an;have HN:=MY (wd (ss k));have HZ:=MY (fun hz=>we (ss:=ss) an hz);have al:=MY (fun(hz:Nat' (ss k)) j (hj:j<k+1)=>show Nat' (ss j)from by
    by_cases e:j=k
    ·rw[e];exact hz
    ·exact HK.out j (by omega))
   generalize ss k=s at *;by_cases h0:0<s.size
   ·have ag:=rN (P:=prog) underlying9 s 0 0 rfl h0;by_cases hz:(s[0]'h0).toNat=0
    ·have hf:=HZ.out (fun hn=>HN.1 hn h0 hz);have HF:=MY hf;rw[hz]at ag;clear hf hz;go_wp2;go_ret;exact⟨by rw[HF.out];rfl,rfl⟩
    ·have ab:Nat' s:=HN.2 (fun _=>hz);have ac:=MY ab;have t1:(((s[0]'h0).toNat:Int)==0)=false:=by rw[beq_eq_false_iff_ne];omega
     generalize (s[0]'h0).toNat=x at *;clear ab hz;go_wp2;go_round
     case rel=>exact⟨k+1,by go_num,by omega,al.out ac.out⟩
     case measure=>simp[intOf];omega
   ·have ab:Nat' s:=HN.2 (fun h=>absurd h h0);have ac:=MY ab;clear ab;go_wp2;go_round
    case rel=>exact⟨k+1,by go_num,by omega,al.out ac.out⟩
    case measure=>simp[intOf];omega
  ·obtain rfl:k=n:=by omega
   go_wp2;go_loop [24] (fun i=>∃q:Nat,i=.int .i64 q/\q<=k/\Hid (∀j,j<q->(ss j).size<=256)) (fun i=>k-(intOf i).toNat)
   case atStart=>exact⟨0,rfl,Nu _,fun j hj=>by omega⟩
   case round=>
    obtain⟨q,rfl,hq,HQ⟩:=hrel;by_cases ao:q<k
    ·have ad:=H.out q ao;have HL:=MY (fun hz=>wf HK.out ao hz);have ar:=MY (fun(hz:(ss q).size<=256) j (hj:j<q+1)=>show(ss j).size<=256 from by
      by_cases e:j=q
      ·rw[e];exact hz
      ·exact HQ.out j (by omega))
     generalize ss q=s at *;by_cases hz:256<s.size
     ·have HF:=MY (HL.out hz);go_wp2;go_ret;exact⟨by rw[HF.out];rfl,rfl⟩
     ·go_wp2;go_round
      case rel=>exact⟨q+1,by go_num,by omega,ar.out (by omega)⟩
      case measure=>simp[intOf];omega
    ·obtain rfl:q=k:=by omega
     have HF:=MY (jp (ss:=ss) (n:=q) (fun j hj=>⟨HK.out j hj,HQ.out j hj⟩));go_wp2;go_ret;exact⟨by rw[HF.out];rfl,rfl⟩
def bv(s:ByteArray):Nat:=dC s.data.toList
def bs(n:Nat):ByteArray:=⟨(benc n).toArray⟩
def aU(n:Nat):bv (bs n)=n:=kV n
def mQ{s}(h:Nat' s):bs (bv s)=s:=by unfold bs bv;rw[BM h]
def wg(n:Nat):Nat' (bs n):=vr n
def CZ(n:Nat):(bs n).size=(benc n).length:=NV
def Da{n:Nat}:cF (bs n)<->n<256^256:=by
 unfold cF;rw[CZ,rD];exact⟨fun h=>h.2,fun h=>⟨wg n,h⟩⟩
def kZ(s:ByteArray):s.data.toList.length=s.size:=Array.length_toList
def Db{s:ByteArray}(h:s.size<=256):bv s<256^256:=by
 have h1:=oJ s.data.toList;rw[kZ]at h1;exact Nf h1 (Ng (by omega) h)
def fA{s}(h:Nat' s):bz ((s.size+7)/8) (bv s):=by
 have h1:=oJ s.data.toList;rw[kZ]at h1;unfold bv;constructor
 ·rw[fu];rw[mH]at h1;exact Nf h1 (Ng (by omega) (by omega))
 ·rcases Nc s.size with e|e
  ·left;omega
  ·right
   cases hl:s.data.toList with
   |nil=>have:=kZ s;rw[hl]at this;simp at this;omega
   |cons c t=>
    have ab:t.length+1=s.size:=by rw[<-kZ,hl];rfl
    have h2:=vt (c:=c) (l:=t) (by rw[<-hl];exact h)
    rw[mH]at h2
    refine Nv ?_ h2
    rw[fu]
    exact Ng (by omega) (by omega)
def Ret(w:World)(v:Value)(e:Ending)(w':World):Prop:=e=.returned v/\eB w w'
def Ret.trans{w w1 w2}{v}{e}(hb:eB w w1)(h:Ret w1 v e w2):Ret w v e w2:=⟨h.1,hb.trans (h.2.mono hb.size)⟩
def wh(s)(w):Calls prog 26 #[.string s] w (Ret w (.int .i64 (chk (fun _=>s) 1))):=by
 have HC:=MY (fun W (h:W.cell? ⟨w.heap.size,0,none⟩=some (.string s))=>jZ w.heap.size 1 1 (fun _=>s) W (by omega) (fun j hj=>by
  have e:j=0:=by omega
  rw[e];exact h))
 go_enter func26,ntmps26;go_wp2_with (go_at_call 46;refine(HC.out _ (by simp[go_sem])).mono ?_;rintro e w1 ⟨rfl,rfl⟩);go_ret;exact⟨rfl,(NB _ _).alloc (No _) _⟩
def lf(w:World)(a b)(t):∀j,j<2->(w.alloc (.cells #[.string a,.string b] t)).cell? ⟨w.heap.size,j,none⟩=some (.string (if j=0 then a else b)):=by
 intro j hj;have:j=0\/j=1:=by omega
 rcases this with rfl|rfl <;> simp[go_sem]
def wi(a b)(w)(ha:cF a)(hb:cF b)(hT:Tab w) :Calls prog 27 #[.string a,.string b] w (Ret w (.tuple #[.string (bs (Nat.gcd (bv a) (bv b))),.int .i64 0])):=by
 have ab:chk (fun j=>if j=0 then a else b) 2=0:=jp (fun j _=>by split <;> assumption);have HC:=MY (jZ w.heap.size 2 2 (fun j=>if j=0 then a else b) (w.alloc (.cells #[.string a,.string b] 9)) (by omega) (lf w a b 9));rw[ab]at HC;have la:=ha.2;have lb:=hb.2;have bi:=MY (fA ha.1);have bk:=MY (fA hb.1);have ba:=MY ((NB w.heap.size w).alloc (No _) (.cells #[.string a,.string b] 9));have HT:=MY hT;clear ab ha hb hT;go_enter func27,ntmps27;go_wp2_with fail;refine HC.mono ?_;rintro e w1 ⟨rfl,rfl⟩;go_wp2_with fail;refine(fy a _ (by omega)).mono ?_;rintro e w1 ⟨rfl,ac,ar,aA⟩;rw[NU]at ac aA⊢;have be:=MY ac;have bb:=MY (ba.trans (ar.mono (by simp)));have h1:w.heap.size+1<w1.heap.size:=ac.lt;clear ac ar aA;go_wp2_with fail;refine(fy b _ (by omega)).mono ?_;rintro e w2 ⟨rfl,an,ag,bm⟩;have ad:=MY (be.below ag h1);have bg:=MY an;have ao:=MY (bb.trans (ag.mono (by omega)));have h2:w1.heap.size<w2.heap.size:=an.lt;have bh:=MY (HT.below ao.out);clear an ag bm;go_wp2_with fail;refine(CY (w.heap.size+1) w1.heap.size ((a.size+7)/8) ((b.size+7)/8) ((a.size+7)/8) ((b.size+7)/8) (bv a) (bv b) w2 bi.out bk.out (by omega) (by omega) (No _) (No _) (by omega) (by omega) ad.wds bg.wds bh.out).mono ?_;rintro e w3 ⟨v,rfl,⟨g,k,cap,hv,ax,hk,bl,hg,hw⟩,al⟩;rw[hv]
 have bc:=MY (ao.trans (al.mono (by omega)));have bn:=al.size;have HX:=MY (mM g k cap (Nat.gcd (bv a) (bv b)) w3 ax (by omega) hg hw);clear al hw ax hv;go_wp2_with fail;refine HX.mono ?_;rintro e w4 ⟨rfl,av⟩;have bd:=MY (bc.trans (av.mono (by omega)));clear av;go_wp2;go_ret2;exact⟨rfl,bd.out⟩
def jq(n:Nat):Value:=if n<256^256 then .tuple #[.string (bs n),.int .i64 0]else .tuple #[.string ⟨#[]⟩,.int .i64 2]
def Dc(a b)(w)(ha:cF a)(hb:cF b) :Calls prog 152 #[.string a,.string b] w (Ret w (jq (bv a*bv b))):=by
 have ab:chk (fun j=>if j=0 then a else b) 2=0:=jp (fun j _=>by split <;> assumption);have HC:=MY (jZ w.heap.size 2 2 (fun j=>if j=0 then a else b) (w.alloc (.cells #[.string a,.string b] 9)) (by omega) (lf w a b 9));rw[ab]at HC;have la:=ha.2;have lb:=hb.2;have aA:=MY (fA ha.1);have ba:=MY (fA hb.1);have bg:=MY ((NB w.heap.size w).alloc (No _) (.cells #[.string a,.string b] 9));clear ab ha hb;by_cases be:bv a*bv b<256^256;all_goals
  have ax:=MY be
  have ac:(if bv a*bv b<256^256 then Value.tuple #[.string ⟨(benc (bv a*bv b)).toArray⟩,.int .i64 0]else .tuple #[.string ⟨#[]⟩,.int .i64 2])=jq (bv a*bv b):=rfl
  have al:=MY ac
  clear be ac
  go_enter func152,ntmps152
  go_wp2_with fail
  refine HC.mono ?_
  rintro e w1 ⟨rfl,rfl⟩
  go_wp2_with fail
  refine(fy a _ (by omega)).mono ?_
  rintro e w1 ⟨rfl,ad,bb,bd⟩
  rw[NU]at ad bd⊢
  have bm:=MY ad
  have bh:=MY (bg.trans (bb.mono (by simp)))
  have h1:w.heap.size+1<w1.heap.size:=ad.lt
  clear ad bb bd
  go_wp2_with fail
  refine(fy b _ (by omega)).mono ?_
  rintro e w2 ⟨rfl,ar,an,bo⟩
  have ag:=MY (bm.below an h1)
  have bn:=MY ar
  have bi:=MY (bh.trans (an.mono (by omega)))
  have h2:w1.heap.size<w2.heap.size:=ar.lt
  clear ar an bo
  go_wp2_with fail
  refine(vV (w.heap.size+1) w1.heap.size ((a.size+7)/8) ((b.size+7)/8) ((a.size+7)/8) ((b.size+7)/8) (bv a) (bv b) w2 aA.1 ba.1 (by omega) (by omega) (by omega) (by omega) ag.wds bn.wds).mono ?_
  rintro e w3 ⟨rfl,av,ao,bp⟩
  have bk:=MY (bi.trans (ao.mono (by omega)))
  have br:=ao.size
  have HX:=MY (vQ w2.heap.size ((a.size+7)/8+(b.size+7)/8) ((a.size+7)/8+(b.size+7)/8) (bv a*bv b) w3 (by rw[Nn];exact Nat.mul_lt_mul'' aA.1 ba.1) (by omega) av.lt av.wds)
  clear ao av bp
  go_wp2_with fail
  refine HX.mono ?_
  first|rw[if_pos ax.out]at * | rw[if_neg ax.out]at *
  rintro e w4 ⟨rfl,bc⟩
  have bl:=MY (bk.trans (bc.mono (by omega)))
  clear bc
  go_wp2
  go_ret2
  exact⟨by rw[<-al.out];rfl,bl.out⟩
def Dd(n:Nat)(w)(hn:n<9223372036854775808) :Calls prog 103 #[.int .i64 (n:Int)] w (Ret w (.tuple #[.string (bs n),.int .i64 0])):=by
 have ab:=MY ((NB w.heap.size w).alloc (No _) (.cells #[.int .u64 (n:Int)] 174));have HX:=MY (mM w.heap.size 1 1 n (w.alloc (.cells #[.int .u64 (n:Int)] 174)) (by omega) (by omega) (by simp) (fun j hj=>by
  have e:j=0:=by omega
  rw[e,jT,Nk (by omega)];simp[go_sem]))
 have e1:IntKind.u64.wrap (n:Int)=(n:Int):=by rw[NA];omega
 go_enter func103,ntmps103;go_wp2_with fail;refine HX.mono ?_;rintro e w1 ⟨rfl,ad⟩;have ac:=MY (ab.trans (ad.mono (by simp)));go_wp2;go_ret2;exact⟨rfl,ac.out⟩
def iL(n:Nat):Value:=if n<9223372036854775808 then .tuple #[.int .i64 (n:Int),.bool true]else .tuple #[.int .i64 0,.bool false]
def rT{s:ByteArray}(h:0<s.size):s.toList.isEmpty=false:=by
 rw[Lib.toList_data]
 cases hl:s.data.toList with
 |nil=>have:=kZ s;rw[hl]at this;simp at this;omega
 |cons c t=>rfl
def De(s)(w)(hs:Nat' s)(hl:s.size<=65536) :Calls prog 59 #[.string s] w (Ret w (iL (bv s))):=by
 rcases Nc s.size with h0|h0
 ·have e:s=⟨#[]⟩:=by
   rcases s with⟨⟨l⟩⟩
   have:l.length=0:=h0;rw[List.length_eq_zero_iff]at this;rw[this]
  subst e;have hv:iL (bv ⟨#[]⟩)=.tuple #[.int .i64 0,.bool true]:=if_pos (by decide);rw[hv];clear hv hs hl h0;go_enter func59,ntmps59;go_wp2;go_ret2;exact⟨rfl,NB _ _⟩
 ·have hz:=(wd s).1 hs h0;have av:=rN (P:=prog) underlying9 s 0 0 rfl h0;have an:=MY (fA hs);have t0:(((s[0]'h0).toNat:Int)==0)=false:=by rw[beq_eq_false_iff_ne];omega
  have te:=rT h0;generalize (s[0]'h0).toNat=x at *;by_cases h8:8<s.size
  ·have hv:iL (bv s)=.tuple #[.int .i64 0,.bool false]:=by
    unfold iL;rw[if_neg];have h1:=an.2;rcases h1 with h1|h1
    ·omega
    ·have h2:18446744073709551616^1<=18446744073709551616^((s.size+7)/8-1):=Ng (by omega) (by omega);rw[Nat.pow_one]at h2;omega
   rw[hv];clear hv;go_enter func59,ntmps59;go_wp2;go_ret2;exact⟨rfl,NB _ _⟩
  ·have e1:(s.size+7)/8=1:=by omega
   have ax:bv s<18446744073709551616:=by have:=an.1;rw[e1]at this;simpa using this
   have HW:=MY (fy s w (by omega));rw[e1]at HW;have key:∀w1:World,Row w1 w.heap.size 1 (word (dC s.data.toList))->w1.cell? ⟨w.heap.size,0,none⟩=some (.int .u64 (bv s:Int)):=fun w1 h=>by
    have:=Row.cell h (i:=0) (by omega);rw[this,jT];congr 3;exact Nk ax
   have ao:=MY key;clear key e1;by_cases ar:bv s<9223372036854775808
   ·have hv:iL (bv s)=.tuple #[.int .i64 (bv s:Int),.bool true]:=if_pos ar;rw[hv];clear hv;have ew:IntKind.i64.wrap (bv s:Int)=(bv s:Int):=by rw[NC];omega
    generalize bv s=V at *;go_enter func59,ntmps59;go_wp2_with fail;refine HW.mono ?_;rintro e w1 ⟨rfl,ad,ab,al⟩;have ac:=ao.out w1 ad;have ag:=MY ab;clear ad ab al;go_wp2;go_ret2;exact⟨rfl,ag.out⟩
   ·have hv:iL (bv s)=.tuple #[.int .i64 0,.bool false]:=if_neg ar;rw[hv];clear hv;generalize bv s=V at *;go_enter func59,ntmps59;go_wp2_with fail;refine HW.mono ?_;rintro e w1 ⟨rfl,ad,ab,al⟩;have ac:=ao.out w1 ad;have ag:=MY ab;clear ad ab al;go_wp2;go_ret2;exact⟨rfl,ag.out⟩
def Df(lo y:Nat)(w)(hy:0<y)(ab:lo<18446744073709551616) :Calls prog 155 #[.int .u64 0,.int .u64 (lo:Int),.int .u64 (y:Int)] w fun e w'=>e=.returned (.tuple #[.int .u64 ((lo/y:Nat):Int),.int .u64 ((lo%y:Nat):Int)])/\∃q,w'=w.drewN q:=by
 have t0:((y:Int)==0)=false:=by rw[beq_eq_false_iff_ne];omega
 have t1:1<=(y:Int):=by omega
 have ew:IntKind.u64.wrap ((lo:Int)/(y:Int))=(lo:Int)/(y:Int):=by
  rw[<-Int.natCast_ediv,NA];have:=NH lo y;generalize lo/y=z at *;omega
 go_enter func155,ntmps155;go_wp2;go_quiet (fail);go_wp2;go_ret2;refine⟨?_,_,rfl⟩;rw[Int.natCast_ediv,Int.natCast_emod];rfl
def dgt(u d y1 y0:Nat):Nat:=(u*4294967296+d)/(y1*4294967296+y0)
def wj{u d y1 y0:Nat}(h1:0<y1)(hu:u<y1*4294967296+y0)(hd:d<4294967296) :dgt u d y1 y0<4294967296/\dgt u d y1 y0*(y1*4294967296+y0)<=u*4294967296+d/\u*4294967296+d-dgt u d y1 y0*(y1*4294967296+y0)<y1*4294967296+y0:=by
 unfold dgt;obtain⟨Y,e⟩:∃Y,Y=y1*4294967296+y0:=⟨_,rfl⟩
 have hY:0<Y:=by omega
 rw[<-e]at hu⊢;refine⟨?_,Nat.div_mul_le_self _ _,?_⟩
 ·rw[Nl hY];have:(u+1)*4294967296<=Y*4294967296:=Nd _ hu;omega
 ·have h2:=Nr (u*4294967296+d) Y;have h3:=Ni (u*4294967296+d) hY;rw[M8]at h2;omega
def wk{u d P:Nat}(ab:P<=u*4294967296+d)(ac:u*4294967296+d-P<18446744073709551616) :((((u:Int)*4294967296)%18446744073709551616+(d:Int))%18446744073709551616-((P:Nat):Int)%18446744073709551616)%18446744073709551616=((u*4294967296+d-P:Nat):Int):=by omega
structure wl(hi lo y s Y y1 y0 h1 l1 un32 un10 un1 un0:Nat):Prop where
 s_le:s<=63
 eY:IntKind.u64.wrap ((y:Int)*2^s)=(Y:Int)
 ey1:(Y:Int)/4294967296=(y1:Int)
 ey0:bits .and .u64 (Y:Int) 4294967295=(y0:Int)
 eh1:IntKind.u64.wrap ((hi:Int)*2^s)=(h1:Int)
 el1:(lo:Int)/2^(64-s)=(l1:Int)
 eun32:bits .or .u64 (h1:Int) (l1:Int)=(un32:Int)
 eun10:IntKind.u64.wrap ((lo:Int)*2^s)=(un10:Int)
 eun1:(un10:Int)/4294967296=(un1:Int)
 eun0:bits .and .u64 (un10:Int) 4294967295=(un0:Int)
 y1_ge:2147483648<=y1
 y1_lt:y1<4294967296
 y0_lt:y0<4294967296
 un1_lt:un1<4294967296
 un0_lt:un0<4294967296
 un32_lt:un32<y1*4294967296+y0
 Yeq:Y=y1*4294967296+y0
 Yshift:Y=y*2^s
 Neq:(un32*4294967296+un1)*4294967296+un0=(hi*18446744073709551616+lo)*2^s
def Dg(hi lo y s Y y1 y0 h1 l1 un32 un10 un1 un0:Nat)(w)(dn:0<hi)(hy:hi<y)(H:wl hi lo y s Y y1 y0 h1 l1 un32 un10 un1 un0)(HL:∀W,Calls prog 216 #[.int .u64 (y:Int)] W fun e w'=>e=.returned (.int .i64 (s:Int))/\W=w') :Calls prog 155 #[.int .u64 (hi:Int),.int .u64 (lo:Int),.int .u64 (y:Int)] w fun e w'=>e=.returned (.tuple #[.int .u64 (((hi*18446744073709551616+lo)/y:Nat):Int),.int .u64 (((hi*18446744073709551616+lo)%y:Nat):Int)])/\w=w':=by
 obtain⟨s_le,eY,ey1,ey0,eh1,el1,eun32,eun10,eun1,eun0,y1_ge,y1_lt,y0_lt,un1_lt,un0_lt,un32_lt,Yeq,Yshift,Neq⟩:=H;have ag:=MY Yeq;have cu:=MY Yshift;have HN:=MY Neq;have HU:=MY un32_lt;have HC:=MY HL;clear Yeq Yshift Neq un32_lt HL;have t0:((y:Int)==0)=false:=by rw[beq_eq_false_iff_ne];omega
 have t1:((hi:Int)==0)=false:=by rw[beq_eq_false_iff_ne];omega
 have t2:¬(y:Int)<=(hi:Int):=by omega
 have di:un32<18446744073709551616:=by have:=HU.out;omega
 obtain⟨q1,bo⟩:∃q,q=un32/y1:=⟨_,rfl⟩
 obtain⟨r1,bu⟩:∃r,r=un32%y1:=⟨_,rfl⟩
 have ch:q1<=4294967297:=by rw[bo];exact vF y1_ge y0_lt HU.out
 have cm:r1<y1:=by rw[bu];exact Ni _ (by omega)
 have cr:=MY (show jn un32 un1 y1 y0 q1 r1 from by rw[bo,bu];exact vB (by omega) un1_lt);have cN:(un32:Int)/(y1:Int)=(q1:Int):=by rw[bo,Int.natCast_ediv]
 have cc:IntKind.u64.wrap (q1:Int)=(q1:Int):=by rw[NA];omega
 have dr:1<=(y1:Int):=by omega
 have be:q1*y1+r1=un32:=by rw[bo,bu,M8];exact Nr _ _
 obtain⟨p1,bs⟩:∃p,p=q1*y1:=⟨_,rfl⟩
 have cC:IntKind.u64.wrap ((q1:Int)*(y1:Int))=(p1:Int):=by
  rw[<-NG,<-bs,NA];rw[<-bs]at be;omega
 have cR:IntKind.u64.wrap ((un32:Int)-(p1:Int))=(r1:Int):=by
  rw[NA];rw[<-bs]at be;omega
 clear bo bu be bs;go_enter func155,ntmps155;go_upto_block 0 with(go_at_call 216;refine(HC.out _).mono ?_;rintro e w1 ⟨rfl,rfl⟩)
 go_cut [15] (fun q wx=>q=.int .u64 (dgt un32 un1 y1 y0:Int)/\wx=w)
 case first=>
  go_wp2_with fail;go_loop [15,16] (fun q r=>∃q' r':Int,q=.int .u64 q'/\r=.int .u64 r'/\0<=q'/\0<=r'/\q'<=4294967297/\r'<4294967296/\Hid (jn un32 un1 y1 y0 q'.toNat r'.toNat)) (fun q _=>(intOf q).toNat)
  case atStart=>exact⟨q1,r1,rfl,rfl,by omega,by omega,by omega,by omega,cr.out⟩
  case round=>
   obtain⟨q,r,rfl,rfl,bd,df,hq,hr,bh⟩:=hrel;by_cases hA:4294967296<=q.toNat\/4294967296*r.toNat+un1<q.toNat*y0
   ·obtain⟨g1,g2⟩:=vE HU.out un1_lt bh.out hA;rw[show q.toNat-1=(q-1).toNat from by omega,show r.toNat+y1=(r+y1).toNat from by omega]at g2;have ba:=MY g2;clear g2;by_cases dd:4294967296<=r+y1
    ·have ac:(q-1).toNat=dgt un32 un1 y1 y0:=by
      refine(oO (by omega) ba.out ?_).1;have h1:(q-1).toNat*y0<=4294967296*y0:=Nd _ (by omega);omega
     have ad:=MY ac;clear ac;by_cases cf:4294967296<=q
     ·clear hA;go_wp2;go_meet;exact⟨by rw[<-ad.out];congr 1;omega,rfl⟩
     ·skip;have bb:4294967296*r.toNat+un1<q.toNat*y0:=by omega
      have bc:q.toNat*y0<18446744073709551616:=by
       have h1:q.toNat*y0<=4294967296*y0:=Nd _ (by omega);omega
      obtain⟨mz,al,em⟩:∃mz:Int,mz=((q.toNat*y0:Nat):Int)/\IntKind.u64.wrap (q*(y0:Int))=mz:=by
       refine⟨_,rfl,?_⟩;have e1:q*(y0:Int)=((q.toNat*y0:Nat):Int):=by rw[NG,Int.toNat_of_nonneg bd]
       rw[e1,NA];generalize q.toNat*y0=mm at *;omega
      have ar:4294967296*r+(un1:Int)<mz:=by
       rw[al];generalize q.toNat*y0=mm at *;omega
      clear hA al bb bc;go_wp2;go_meet;exact⟨by rw[<-ad.out];congr 1;omega,rfl⟩
    ·by_cases cf:4294967296<=q
     ·clear hA;go_wp2;go_round
      case rel=>exact⟨q-1,r+y1,rfl,rfl,by omega,by omega,by omega,by omega,ba.out⟩
      case measure=>simp[intOf];omega
     ·skip;have bb:4294967296*r.toNat+un1<q.toNat*y0:=by omega
      have bc:q.toNat*y0<18446744073709551616:=by
       have h1:q.toNat*y0<=4294967296*y0:=Nd _ (by omega);omega
      obtain⟨mz,al,em⟩:∃mz:Int,mz=((q.toNat*y0:Nat):Int)/\IntKind.u64.wrap (q*(y0:Int))=mz:=by
       refine⟨_,rfl,?_⟩;have e1:q*(y0:Int)=((q.toNat*y0:Nat):Int):=by rw[NG,Int.toNat_of_nonneg bd]
       rw[e1,NA];generalize q.toNat*y0=mm at *;omega
      have ar:4294967296*r+(un1:Int)<mz:=by
       rw[al];generalize q.toNat*y0=mm at *;omega
      clear hA al bb bc;go_wp2;go_round
      case rel=>exact⟨q-1,r+y1,rfl,rfl,by omega,by omega,by omega,by omega,ba.out⟩
      case measure=>simp[intOf];omega
   ·have bn:q.toNat*y0<=4294967296*r.toNat+un1:=by omega
    have cl:q<4294967296:=by omega
    have ac:q.toNat=dgt un32 un1 y1 y0:=(oO (by omega) bh.out bn).1;have ad:=MY ac;obtain⟨mz,al,em⟩:∃mz:Int,mz=((q.toNat*y0:Nat):Int)/\IntKind.u64.wrap (q*(y0:Int))=mz:=by
     refine⟨_,rfl,?_⟩;have e1:q*(y0:Int)=((q.toNat*y0:Nat):Int):=by rw[NG,Int.toNat_of_nonneg bd]
     rw[e1,NA];generalize q.toNat*y0=mm at *;omega
    have ar:mz<=4294967296*r+(un1:Int):=by
     rw[al];generalize q.toNat*y0=mm at *;omega
    clear hA ac al bn;go_wp2;go_meet;exact⟨by rw[<-ad.out];congr 1;omega,rfl⟩
 case rest=>
  obtain⟨rfl,rfl⟩:=hcut;obtain⟨hQ,an,ao⟩:=wj (by omega) HU.out un1_lt;have bi:dgt un32 un1 y1 y0*(y1*4294967296+y0)=dgt un32 un1 y1 y0*Y:=by rw[ag.out]
  rw[bi]at an ao;have cp:=MY (show dgt un32 un1 y1 y0=(un32*4294967296+un1)/Y from by unfold dgt;rw[<-ag.out]);clear bi cN cc cC cR ch cm cr eY ey1 ey0 eh1 el1 eun32 eun10 eun1 eun0 di;generalize dgt un32 un1 y1 y0=Q1 at *;have dl:Y<18446744073709551616:=by have:=ag.out;omega
  obtain⟨a1,bk,bw⟩:∃a:Int,a=((un32:Int)*4294967296)%18446744073709551616/\IntKind.u64.wrap ((un32:Int)*4294967296)=a:=⟨_,rfl,by rw[NA]⟩
  obtain⟨a2,bl,bx⟩:∃a:Int,a=(a1+(un1:Int))%18446744073709551616/\IntKind.u64.wrap (a1+(un1:Int))=a:=⟨_,rfl,by rw[NA]⟩
  obtain⟨a3,bm,ca⟩:∃a:Int,a=((Q1*Y:Nat):Int)%18446744073709551616/\IntKind.u64.wrap ((Q1:Int)*(Y:Int))=a:=⟨_,rfl,by rw[<-NG,NA]⟩
  obtain⟨ab,av⟩:∃u:Nat,u=un32*4294967296+un1-Q1*Y:=⟨_,rfl⟩
  have cb:IntKind.u64.wrap (a2-a3)=(ab:Int):=by
   rw[NA,bl,bm,bk,av];exact wk an (by have:=ag.out;omega)
  have br:=MY (show ab<y1*4294967296+y0 from by rw[av];exact ao);have cs:=MY (show ab=(un32*4294967296+un1)%Y from by
   have h2:=Nr (un32*4294967296+un1) Y;rw[<-cp.out,M8]at h2;omega)
  clear bk bl bm av an ao;have co:ab<18446744073709551616:=by have:=br.out;omega
  obtain⟨q2,bp⟩:∃q,q=ab/y1:=⟨_,rfl⟩
  obtain⟨r2,bv⟩:∃r,r=ab%y1:=⟨_,rfl⟩
  have ci:q2<=4294967297:=by rw[bp];exact vF y1_ge y0_lt br.out
  have cn:r2<y1:=by rw[bv];exact Ni _ (by omega)
  have bg:=MY (show jn ab un0 y1 y0 q2 r2 from by rw[bp,bv];exact vB (by omega) un0_lt);have cP:(ab:Int)/(y1:Int)=(q2:Int):=by rw[bp,Int.natCast_ediv]
  have cd:IntKind.u64.wrap (q2:Int)=(q2:Int):=by rw[NA];omega
  have be:q2*y1+r2=ab:=by rw[bp,bv,M8];exact Nr _ _
  obtain⟨p2,bt⟩:∃p,p=q2*y1:=⟨_,rfl⟩
  have cD:IntKind.u64.wrap ((q2:Int)*(y1:Int))=(p2:Int):=by
   rw[<-NG,<-bt,NA];rw[<-bt]at be;omega
  have db:IntKind.u64.wrap ((ab:Int)-(p2:Int))=(r2:Int):=by
   rw[NA];rw[<-bt]at be;omega
  clear bp bv be bt;go_upto_block 2 with(fail)
  go_cut [18] (fun q wx=>q=.int .u64 (dgt ab un0 y1 y0:Int)/\wx=wc)
  case first=>
   clear bw bx ca cb;go_wp2_with fail;go_loop [18,16] (fun q r=>∃q' r':Int,q=.int .u64 q'/\r=.int .u64 r'/\0<=q'/\0<=r'/\q'<=4294967297/\r'<4294967296/\Hid (jn ab un0 y1 y0 q'.toNat r'.toNat)) (fun q _=>(intOf q).toNat)
   case atStart=>exact⟨q2,r2,rfl,rfl,by omega,by omega,by omega,by omega,bg.out⟩
   case round=>
    obtain⟨q,r,rfl,rfl,bd,df,hq,hr,bh⟩:=hrel;by_cases hA:4294967296<=q.toNat\/4294967296*r.toNat+un0<q.toNat*y0
    ·obtain⟨g1,g2⟩:=vE br.out un0_lt bh.out hA;rw[show q.toNat-1=(q-1).toNat from by omega,show r.toNat+y1=(r+y1).toNat from by omega]at g2;have ba:=MY g2;clear g2;by_cases dd:4294967296<=r+y1
     ·have ac:(q-1).toNat=dgt ab un0 y1 y0:=by
       refine(oO (by omega) ba.out ?_).1;have h1:(q-1).toNat*y0<=4294967296*y0:=Nd _ (by omega);omega
      have ad:=MY ac;clear ac;by_cases cf:4294967296<=q
      ·clear hA;go_wp2;go_meet;exact⟨by rw[<-ad.out];congr 1;omega,rfl⟩
      ·skip;have bb:4294967296*r.toNat+un0<q.toNat*y0:=by omega
       have bc:q.toNat*y0<18446744073709551616:=by
        have h1:q.toNat*y0<=4294967296*y0:=Nd _ (by omega);omega
       obtain⟨mz,al,em⟩:∃mz:Int,mz=((q.toNat*y0:Nat):Int)/\IntKind.u64.wrap (q*(y0:Int))=mz:=by
        refine⟨_,rfl,?_⟩;have e1:q*(y0:Int)=((q.toNat*y0:Nat):Int):=by rw[NG,Int.toNat_of_nonneg bd]
        rw[e1,NA];generalize q.toNat*y0=mm at *;omega
       have ar:4294967296*r+(un0:Int)<mz:=by
        rw[al];generalize q.toNat*y0=mm at *;omega
       clear hA al bb bc;go_wp2;go_meet;exact⟨by rw[<-ad.out];congr 1;omega,rfl⟩
     ·by_cases cf:4294967296<=q
      ·clear hA;go_wp2;go_round
       case rel=>exact⟨q-1,r+y1,rfl,rfl,by omega,by omega,by omega,by omega,ba.out⟩
       case measure=>simp[intOf];omega
      ·skip;have bb:4294967296*r.toNat+un0<q.toNat*y0:=by omega
       have bc:q.toNat*y0<18446744073709551616:=by
        have h1:q.toNat*y0<=4294967296*y0:=Nd _ (by omega);omega
       obtain⟨mz,al,em⟩:∃mz:Int,mz=((q.toNat*y0:Nat):Int)/\IntKind.u64.wrap (q*(y0:Int))=mz:=by
        refine⟨_,rfl,?_⟩;have e1:q*(y0:Int)=((q.toNat*y0:Nat):Int):=by rw[NG,Int.toNat_of_nonneg bd]
        rw[e1,NA];generalize q.toNat*y0=mm at *;omega
       have ar:4294967296*r+(un0:Int)<mz:=by
        rw[al];generalize q.toNat*y0=mm at *;omega
       clear hA al bb bc;go_wp2;go_round
       case rel=>exact⟨q-1,r+y1,rfl,rfl,by omega,by omega,by omega,by omega,ba.out⟩
       case measure=>simp[intOf];omega
    ·have bn:q.toNat*y0<=4294967296*r.toNat+un0:=by omega
     have cl:q<4294967296:=by omega
     have ac:q.toNat=dgt ab un0 y1 y0:=(oO (by omega) bh.out bn).1;have ad:=MY ac;obtain⟨mz,al,em⟩:∃mz:Int,mz=((q.toNat*y0:Nat):Int)/\IntKind.u64.wrap (q*(y0:Int))=mz:=by
      refine⟨_,rfl,?_⟩;have e1:q*(y0:Int)=((q.toNat*y0:Nat):Int):=by rw[NG,Int.toNat_of_nonneg bd]
      rw[e1,NA];generalize q.toNat*y0=mm at *;omega
     have ar:mz<=4294967296*r+(un0:Int):=by
      rw[al];generalize q.toNat*y0=mm at *;omega
     clear hA ac al bn;go_wp2;go_meet;exact⟨by rw[<-ad.out];congr 1;omega,rfl⟩
  case rest=>
   obtain⟨rfl,rfl⟩:=hcut;obtain⟨dk,an,ao⟩:=wj (by omega) br.out un0_lt;have bi:dgt ab un0 y1 y0*(y1*4294967296+y0)=dgt ab un0 y1 y0*Y:=by rw[ag.out]
   rw[bi]at an ao;have cq:=MY (show dgt ab un0 y1 y0=(ab*4294967296+un0)/Y from by unfold dgt;rw[<-ag.out]);clear bi cP cd cD db ci cn bg bw bx ca cb co;generalize dgt ab un0 y1 y0=Q0 at *;obtain⟨a1,bk,bw⟩:∃a:Int,a=((ab:Int)*4294967296)%18446744073709551616/\IntKind.u64.wrap ((ab:Int)*4294967296)=a:=⟨_,rfl,by rw[NA]⟩
   obtain⟨a2,bl,bx⟩:∃a:Int,a=(a1+(un0:Int))%18446744073709551616/\IntKind.u64.wrap (a1+(un0:Int))=a:=⟨_,rfl,by rw[NA]⟩
   obtain⟨a3,bm,ca⟩:∃a:Int,a=((Q0*Y:Nat):Int)%18446744073709551616/\IntKind.u64.wrap ((Q0:Int)*(Y:Int))=a:=⟨_,rfl,by rw[<-NG,NA]⟩
   obtain⟨rr,cv⟩:∃u:Nat,u=ab*4294967296+un0-Q0*Y:=⟨_,rfl⟩
   have cb:IntKind.u64.wrap (a2-a3)=(rr:Int):=by
    rw[NA,bl,bm,bk,cv];exact wk an (by have:=ag.out;omega)
   have cz:=MY (show rr=(ab*4294967296+un0)%Y from by
    have h2:=Nr (ab*4294967296+un0) Y;rw[<-cq.out,M8]at h2;omega)
   clear bk bl bm cv an ao;obtain⟨f1,f2⟩:=Cd (X:=un32*4294967296+un1) (un0:=un0) (Y:=Y) (by have:=ag.out;omega);rw[<-cs.out,<-cp.out,<-cq.out,HN.out]at f1;rw[<-cs.out,<-cz.out,HN.out]at f2;have ax:(hi*18446744073709551616+lo)/y=Q0+4294967296*Q1:=by rw[f1,cu.out];exact(vG (s:=s)).1.symm
   have aA:(hi*18446744073709551616+lo)%y=rr/2^s:=by rw[f2,cu.out];exact(vG (s:=s)).2.symm
   have cw:=MY ax;have cx:=MY aA;clear f1 f2 ax aA;go_wp2;go_ret2;refine⟨?_,rfl⟩;rw[cw.out,cx.out,show((Q0+4294967296*Q1:Nat):Int)=(Q1:Int)*4294967296+(Q0:Int)from by omega,show((rr/2^s:Nat):Int)=(rr:Int)/2^s from by simp];rfl
def Dh{hi lo y s:Nat}(hs:s<=63)(hy:hi<y)(ad:lo<18446744073709551616)(hl:9223372036854775808<=y*2^s)(hr:y*2^s<18446744073709551616) :∃Y y1 y0 h1 l1 un32 un10 un1 un0,wl hi lo y s Y y1 y0 h1 l1 un32 un10 un1 un0:=by
 have hp:0<2^s:=Nat.pow_pos (by omega);have ag:2^(64-s)*2^s=18446744073709551616:=by rw[<-Nn,show 64-s+s=64 from by omega]
 have hh:hi*2^s+2^s<=y*2^s:=by
  have:(hi+1)*2^s<=y*2^s:=Nd _ hy;rw[Nat.add_mul]at this;omega
 have al:lo/2^(64-s)<2^s:=by
  rw[Nl (Nat.pow_pos (by omega)),M8,ag];exact ad
 have an:(hi*2^s) |||(lo/2^(64-s))=hi*2^s+lo/2^(64-s):=by
  rw[M8,Nat.two_pow_add_eq_or_of_lt al]
 have hq:lo*2^s/18446744073709551616=lo/2^(64-s):=by
  rw[<-ag,Nat.mul_div_mul_right _ _ hp]
 have ab:=Nr (lo*2^s) 18446744073709551616;rw[hq]at ab;refine⟨y*2^s,y*2^s/4294967296,y*2^s%4294967296,hi*2^s,lo/2^(64-s),hi*2^s+lo/2^(64-s),lo*2^s%18446744073709551616,lo*2^s%18446744073709551616/4294967296,lo*2^s%18446744073709551616%4294967296,?_⟩;have c1:∀x:Nat,(x:Int)*2^s=((x*2^s:Nat):Int):=fun x=>by simp
 have ac:∀x:Nat,x<18446744073709551616->bits .and .u64 (x:Int) 4294967295=((x%4294967296:Nat):Int):=M64.maskN;have hN:((hi*2^s+lo/2^(64-s))*4294967296+lo*2^s%18446744073709551616/4294967296)*4294967296+lo*2^s%18446744073709551616%4294967296=(hi*18446744073709551616+lo)*2^s:=by
  have e:(hi*18446744073709551616+lo)*2^s=hi*2^s*18446744073709551616+lo*2^s:=by grind
  rw[e];generalize lo*2^s%18446744073709551616=z at *;generalize lo*2^s=t at *;generalize lo/2^(64-s)=q at *;generalize hi*2^s=h at *;omega
 refine{s_le:=hs,eY:=?_,ey1:=?_,ey0:=ac _ hr,eh1:=?_,el1:=?_,eun32:=?_,eun10:=?_,eun1:=?_,eun0:=ac _ (Ni _ (by omega)),y1_ge:=?_,y1_lt:=?_,y0_lt:=Ni _ (by omega),un1_lt:=?_,un0_lt:=Ni _ (by omega),un32_lt:=?_,Yeq:=?_,Yshift:=rfl,Neq:=hN}
 ·rw[c1,NA];generalize y*2^s=z at *;omega
 ·generalize y*2^s=z at *;omega
 ·rw[c1,NA];generalize hi*2^s=z at *;generalize y*2^s=z' at *;omega
 ·simp
 ·rw[bits_or_u64_nat _ _ ?_ ?_,an]
  ·generalize hi*2^s=z at *;generalize y*2^s=z' at *;omega
  ·exact Nt (NH _ _) ad
 ·rw[c1,NA];omega
 ·generalize lo*2^s%18446744073709551616=z at *;omega
 ·generalize y*2^s=z at *;omega
 ·generalize y*2^s=z at *;omega
 ·have:=Ni (lo*2^s) (show 0<18446744073709551616 by omega);generalize lo*2^s%18446744073709551616=z at *;omega
 ·generalize lo/2^(64-s)=q at *;generalize hi*2^s=h at *;generalize y*2^s=z at *;omega
 ·generalize y*2^s=z at *;omega
def Di(hi lo y:Nat)(w)(hy:hi<y)(ad:y<18446744073709551616)(ac:lo<18446744073709551616) :Calls prog 155 #[.int .u64 (hi:Int),.int .u64 (lo:Int),.int .u64 (y:Int)] w fun e w'=>e=.returned (.tuple #[.int .u64 (((hi*18446744073709551616+lo)/y:Nat):Int),.int .u64 (((hi*18446744073709551616+lo)%y:Nat):Int)])/\∃q,w'=w.drewN q:=by
 by_cases h0:hi=0
 ·subst h0;have:=Df lo y w (by omega) ac;simpa using this
 ·obtain⟨b1,b2,b3,b4⟩:=rQ (x:=y) (by omega) ad;have ab:=fun W=>CH y W (by omega) ad;generalize Lib.bitLen y=L at *;have ag:2^(L-1)*2^(64-L)=9223372036854775808:=by rw[<-Nn,show L-1+(64-L)=63 from by omega]
  have al:2^L*2^(64-L)=18446744073709551616:=by rw[<-Nn,show L+(64-L)=64 from by omega]
  have hp:0<2^(64-L):=Nat.pow_pos (by omega);obtain⟨Y,y1,y0,h1,l1,un32,un10,un1,un0,H⟩:=Dh (s:=64-L) (by omega) hy ac (by rw[<-ag];exact Nd _ b3) (by rw[<-al];exact Nat.mul_lt_mul_of_pos_right b4 hp);refine(Dg hi lo y (64-L) Y y1 y0 h1 l1 un32 un10 un1 un0 w (by omega) hy H (fun W=>?_)).mono ?_
  ·have:=ab W;rw[show(64:Int)-(L:Int)=((64-L:Nat):Int)from by omega]at this;exact this
  ·rintro e w' ⟨rfl,rfl⟩;exact⟨rfl,0,rfl⟩
end
section
open Go.RowKit Bf
attribute [local go_sem ↓] Go.wp_at_zero Go.wp_at_succ
def lg(w':World)(v:Value)(V:Nat):Prop:=(v=.slice none 0 0/\V=0)\/mO w' v V
def oW(w:World)(q r:Nat)(e:Ending)(w':World):Prop:=∃v u,e=.returned (.tuple #[v,u])/\lg w' v q/\lg w' u r/\eB w w'
def Dj(b b' n m c c' V U:Nat)(w:World)(hV:bz n V)(hU:bz m U)(hn:n<=65536)(hm:m<=65536)(hc:n<=c)(hb:b<w.heap.size)(hb':b'<w.heap.size)(h:Wds w b n V)(h':Wds w b' m U)(ad:V<U) :Calls prog 114 #[.slice b n c,.slice b' m c'] w (oW w (V/U) (V%U)):=by
 have hq:V/U=0:=Nj ad;have hr:V%U=V:=Nk ad;rw[hq,hr];have HC:=MY (fun W (hW:eB w W)=>jX b b' n m c c' V U W hV hU hn hm (h.below hW hb) (h'.below hW hb'));rw[iK ad]at HC;have HN:=MY (fun W (hW:eB w W)=>show mO W (.slice b n c) V from⟨b,n,c,rfl,hV.1,hn,hc,Nf hb hW.size,h.below hW hb⟩);clear hV hU h h' hq hr;go_enter func114,ntmps114;go_wp2_with fail;have ab:=MY ((((NB w.heap.size w).alloc (No _) (.cells #[.slice b' m c'] 114)).alloc (by simp) (.cells #[.slice none 0 0] 114)).alloc (by simp;omega) (.cells #[.slice none 0 0] 114));refine(HC.out _ ab.out).mono ?_;rintro e w1 ⟨rfl,q,hq⟩;have ag:Hid (eB w w1):=by rw[hq];exact⟨ab.os,ab.tape,ab.output,ab.size,ab.block⟩
 have c1:w1.cell? ⟨w.heap.size+1,0,none⟩=some (.slice none 0 0):=by rw[hq];simp[go_sem]
 have c2:w1.cell? ⟨w.heap.size+1+1,0,none⟩=some (.slice none 0 0):=by rw[hq];simp[go_sem]
 have f1:w1.frozen? ⟨w.heap.size+1,0,none⟩=false:=by rw[hq];simp[go_sem]
 have f2:w1.frozen? ⟨w.heap.size+1+1,0,none⟩=false:=by rw[hq];simp[go_sem]
 clear hq;go_wp2;have ac:=(ag.setCell (p:=⟨w.heap.size+1,0,none⟩) (by simp) (.slice none 0 0)).setCell (p:=⟨w.heap.size+1+1,0,none⟩) (by simp;omega) (.slice b n c);exact bodyPost_ret (v:= .tuple #[.slice none 0 0,.slice b n c]) (by simp[results,results114,go_sem,c1,c2]) rfl ⟨_,_,rfl,.inl ⟨rfl,rfl⟩,.inr (HN.out _ ac),ac⟩
structure gA(w wr:World)(b' n c' V U:Nat)(z:Int):Prop where
 cb:wr.cell? ⟨w.heap.size,0,none⟩=some (.slice b' 1 c')
 cq:wr.cell? ⟨w.heap.size+1,0,none⟩=some (.slice (some ⟨w.heap.size+3,0,none⟩) n n)
 cr:wr.cell? ⟨w.heap.size+1+1,0,none⟩=some (.slice none 0 0)
 fq:wr.frozen? ⟨w.heap.size+1,0,none⟩=false
 fr:wr.frozen? ⟨w.heap.size+1+1,0,none⟩=false
 row:Row wr (w.heap.size+3) n (fun j=>if z<(j:Int)then word (V/U) j else 0)
 bel:eB w wr
def gA.drewN{w wr}{b' n c' V U:Nat}{z:Int}(h:gA w wr b' n c' V U z)(q:Nat):gA w (wr.drewN q) b' n c' V U z:=
 ⟨h.cb,h.cq,h.cr,h.fq,h.fr,h.row,⟨h.bel.os,h.bel.tape,h.bel.output,h.bel.size,h.bel.block⟩⟩
def gA.drew{w wr}{b' n c' V U:Nat}{z:Int}(h:gA w wr b' n c' V U z):gA w wr.drew b' n c' V U z:=h.drewN 1
def gA.set{w wr}{b' n c' V U k:Nat}(h:gA w wr b' n c' V U (k:Int))(v:Int)(hv:v=(word (V/U) k:Int)) :gA w (wr.setCell ⟨w.heap.size+3,k,none⟩ (.int .u64 v)) b' n c' V U ((k:Int)-1):=by
 have ab:∀x,x<w.heap.size+3->(wr.setCell ⟨w.heap.size+3,k,none⟩ (.int .u64 v)).cell? ⟨x,0,none⟩=wr.cell? ⟨x,0,none⟩:=fun x hx=>NL (w:=wr) (NF wr _ _ x (by simp;omega));refine⟨?_,?_,?_,?_,?_,?_,h.bel.setCell (p:=⟨w.heap.size+3,k,none⟩) (by simp) _⟩
 ·rw[ab _ (by omega)];exact h.cb
 ·rw[ab _ (by omega)];exact h.cq
 ·rw[ab _ (by omega)];exact h.cr
 ·rw[World.frozen?_setCell];exact h.fq
 ·rw[World.frozen?_setCell];exact h.fr
 ·refine(h.row.set k v hv).congr fun i hi=>?_;by_cases e:i=k
  ·rw[if_pos e,e,if_pos (by omega)]
  ·rw[if_neg e];have:((k:Int)<(i:Int))=((k:Int)-1<(i:Int)):=by apply propext;omega
   simp only[this]
def Dk(b b' n c c' V U:Nat)(w:World)(hV:bz n V)(hU:bz 1 U)(hn:n<=65536)(hb:b<w.heap.size)(hb':b'<w.heap.size)(h:Wds w b n V)(h':Wds w b' 1 U)(ca:U<=V) :Calls prog 114 #[.slice b n c,.slice b' 1 c'] w (oW w (V/U) (V%U)):=by
 have an:0<U:=Nat.pos_of_ne_zero fun e=>by have:=(iJ hU).2 e;omega
 have ba:U<18446744073709551616:=by simpa using hU.1
 have HC:=MY (fun W (hW:eB w W)=>jX b b' n 1 c c' V U W hV hU hn (by omega) (h.below hW hb) (h'.below hW hb'));have bp:0<=cmpN V U:=by unfold cmpN;split <;> (try split) <;> omega
 have H:=MY h;have aA:∀W,eB w W->W.cell? ⟨b',0,none⟩=some (.int .u64 (U:Int)):=fun W hW=>by
  have:=h'.below hW hb' 0 (by omega);rwa[jT,Nk ba]at this
 have bm:=MY aA;have HV:=MY hV;have bc:=fun W:World=>jV n (by omega) W;clear hV hU h h' aA;generalize cmpN V U=cm at *;have cf:decide (cm<0)=false:=by simp;omega
 go_enter func114,ntmps114;go_wp2_with fail;have ad:=MY ((((NB w.heap.size w).alloc (No _) (.cells #[.slice b' 1 c'] 114)).alloc (by simp) (.cells #[.slice none 0 0] 114)).alloc (by simp;omega) (.cells #[.slice none 0 0] 114));refine(HC.out _ ad.out).mono ?_;rintro e w1 ⟨rfl,q,hq⟩;have av:Hid (eB w w1):=by rw[hq];exact⟨ad.os,ad.tape,ad.output,ad.size,ad.block⟩
 have c0:w1.cell? ⟨w.heap.size,0,none⟩=some (.slice b' 1 c'):=by rw[hq];simp[go_sem]
 have c1:w1.cell? ⟨w.heap.size+1,0,none⟩=some (.slice none 0 0):=by rw[hq];simp[go_sem]
 have c2:w1.cell? ⟨w.heap.size+1+1,0,none⟩=some (.slice none 0 0):=by rw[hq];simp[go_sem]
 have f1:w1.frozen? ⟨w.heap.size+1,0,none⟩=false:=by rw[hq];simp[go_sem]
 have f2:w1.frozen? ⟨w.heap.size+1+1,0,none⟩=false:=by rw[hq];simp[go_sem]
 have hs:w1.heap.size=w.heap.size+3:=by rw[hq];simp[go_sem]
 clear hq ad HC;have ag:=bc w1;rw[hs]at ag;clear bc;have HS:=MY hs;have d0:∀o,(w1.alloc o).cell? ⟨w.heap.size,0,none⟩=some (.slice b' 1 c'):=fun o=>by rw[NJ _ _ _ (by simp;omega)];exact c0
 have d1:∀o,(w1.alloc o).cell? ⟨w.heap.size+1,0,none⟩=some (.slice none 0 0):=fun o=>by rw[NJ _ _ _ (by simp;omega)];exact c1
 have g1:∀o,(w1.alloc o).frozen? ⟨w.heap.size+1,0,none⟩=false:=fun o=>by rw[NW (w:=w1) (NT w1 o _ (by simp;omega))];exact f1
 clear hs;go_wp2;have ax:Hid (gA w ((w1.alloc (.cells (madeCells #[.int .u64 0] n) 174)).setCell ⟨w.heap.size+1,0,none⟩ (.slice (some ⟨w.heap.size+3,0,none⟩) n n)) b' n c' V U ((n:Int)-1)):=by
  have hs:=HS.out;have bd:∀x,x≠w.heap.size+1->((w1.alloc (.cells (madeCells #[.int .u64 0] n) 174)).setCell ⟨w.heap.size+1,0,none⟩ (.slice (some ⟨w.heap.size+3,0,none⟩) n n)).cell? ⟨x,0,none⟩=(w1.alloc (.cells (madeCells #[.int .u64 0] n) 174)).cell? ⟨x,0,none⟩:=fun x hx=>NL (w:=w1.alloc _) (NF _ _ _ x hx);refine⟨?_,?_,?_,?_,?_,?_,(av.alloc (by omega) _).setCell (p:=⟨w.heap.size+1,0,none⟩) (by simp) _⟩
  ·rw[bd _ (by omega)];exact d0 _
  ·exact World.cell?_setCell_same' _ _ _ (by rw[d1];rfl)
  ·rw[bd _ (by omega),NJ _ _ _ (by simp;omega)];exact c2
  ·rw[World.frozen?_setCell];exact g1 _
  ·rw[World.frozen?_setCell,NW (w:=w1) (NT w1 _ _ (by simp;omega))];exact f2
  ·have hr:Row (w1.alloc (.cells (madeCells #[.int .u64 0] n) 174)) (w.heap.size+3) n (fun _=>0):=by
    rw[<-hs];exact Row.of_rowIs (World.rowIs_made w1 _ _ _)
   refine(hr.of_block (NF _ _ _ _ (by simp))).congr fun i hi=>?_;rw[if_neg (by omega)]
 clear d0 d1 g1 c0 c1 c2 f1 f2 ag av HS;go_loopw [6,7] (fun re i wr=>∃z:Int,-1<=z/\z<n/\i=.int .i64 z/\re=.int .u64 (((V/18446744073709551616^(z+1).toNat)%U:Nat):Int)/\gA w wr b' n c' V U z) (fun _ i _=>(intOf i+1).toNat)
 case atStart=>
  refine⟨(n:Int)-1,by omega,by omega,rfl,?_,ax.out⟩;rw[show((n:Int)-1+1).toNat=n from by omega,Nj HV.1,Nat.zero_mod];rfl
 case round=>
  obtain⟨z,cc,cd,rfl,rfl,bi⟩:=hrel;have ab:=MY bi;clear bi ax;by_cases hz:0<=z
  ·obtain⟨k,rfl⟩:=Int.eq_ofNat_of_zero_le hz;rw[show((k:Int)+1).toNat=k+1 from by omega];obtain⟨e1,e2⟩:=BZ (V:=V) (b:=U) (i:=k) an;have ar:=Ni (V/18446744073709551616^(k+1)) an;have bo:=ab.cb;have bb:=ab.cq;have bn:=(ab.bel.cell (p:=⟨b,k,none⟩) hb).trans (H.out k (by omega));have br:=bm.out wr ab.bel;have bw:=ab.row.cell (i:=k) (by omega);have bx:=ab.row.frozen k;have HD:=MY (fun W=>Di (V/18446744073709551616^(k+1)%U) (word V k) U W ar ba (dD V k));rw[e1,e2]at HD;have ac:((k:Int)-1+1).toNat=k:=by omega
   have bk:=MY ac;clear e1 e2 ar ac;generalize V/18446744073709551616^(k+1)%U=re at *;generalize be:word (V/U) k=qd at *;generalize bg:V/18446744073709551616^k%U=rd at *;have al:=MY be;have bl:=MY bg;clear be bg;go_wp2_with fail;have n1:¬w.heap.size+3=w.heap.size:=by omega
   have n2:¬w.heap.size+3=w.heap.size+1:=by omega
   have n3:¬w.heap.size+3=b:=by omega
   have n4:¬w.heap.size+3=b':=by omega
   have m1:¬w.heap.size=w.heap.size+3:=by omega
   have m2:¬w.heap.size+1=w.heap.size+3:=by omega
   have m3:¬b=w.heap.size+3:=by omega
   have m4:¬b'=w.heap.size+3:=by omega
   obtain⟨bu,bv⟩:=ix (k:=k) (n:=n);go_region_held3 (fun w'=>w'.cell? ⟨w.heap.size,0,none⟩=some (.slice b' 1 c')/\w'.cell? ⟨w.heap.size+1,0,none⟩=some (.slice (some ⟨w.heap.size+3,0,none⟩) n n)/\w'.cell? ⟨b,k,none⟩=some (.int .u64 (word V k:Int))/\w'.cell? ⟨b',0,none⟩=some (.int .u64 (U:Int))) (first|exact⟨bo,bb,bn,br⟩|go_keep)
    (first|(go_at_call 155;refine(HD.out _).mono ?_;rintro e w1 ⟨rfl,qq,rfl⟩))
   go_wp2;go_roundw
   case rel=>
    refine⟨(k:Int)-1,by omega,by omega,rfl,?_,?_⟩
    ·rw[bk.out,bl.out]
    ·first
      |exact(ab.set _ (by rw[al.out])).drewN _
      |exact((ab.set _ (by rw[al.out])).drewN _).drew
      |exact(ab.drew.drewN _).set _ (by rw[al.out])
   case measure=>simp[intOf] <;> omega
  ·obtain rfl:z= -1:=by omega
   have e0:V/18446744073709551616^((-1:Int)+1).toNat%U=V%U:=by simp
   rw[e0];have bs:=ab.row.lt;have d1:∀o,(wr.alloc o).cell? ⟨w.heap.size+1,0,none⟩=some (.slice (some ⟨w.heap.size+3,0,none⟩) n n):=fun o=>by rw[NJ _ _ _ (by simp;omega)];exact ab.cq
   have d2:∀o,(wr.alloc o).cell? ⟨w.heap.size+1+1,0,none⟩=some (.slice none 0 0):=fun o=>by rw[NJ _ _ _ (by simp;omega)];exact ab.cr
   have g1:∀o,(wr.alloc o).frozen? ⟨w.heap.size+1,0,none⟩=false:=fun o=>by rw[NW (w:=wr) (NT wr o _ (by simp;omega))];exact ab.fq
   have g2:∀o,(wr.alloc o).frozen? ⟨w.heap.size+1+1,0,none⟩=false:=fun o=>by rw[NW (w:=wr) (NT wr o _ (by simp;omega))];exact ab.fr
   have bb:=ab.cq;have ar:=Ni V an;generalize bh:V%U=rv at *;have bt:=MY bh;clear bh e0;go_wp2;have ao:eB w (((wr.alloc (.cells #[.int .u64 (rv:Int)] 174)).setCell ⟨w.heap.size+1,0,none⟩ (.slice (some ⟨w.heap.size+3,0,none⟩) n n)).setCell ⟨w.heap.size+1+1,0,none⟩ (.slice wr.heap.size 1 1)):=((ab.bel.alloc ab.bel.size _).setCell (p:=⟨w.heap.size+1,0,none⟩) (by simp) _).setCell (p:=⟨w.heap.size+1+1,0,none⟩) (by simp;omega) _;refine bodyPost_ret (v:= .tuple #[.slice (some ⟨w.heap.size+3,0,none⟩) n n,.slice wr.heap.size 1 1]) (by simp[results,results114,go_sem,d1,d2]) rfl ⟨_,_,rfl,.inr ?_,.inr ?_,ao⟩
   ·refine⟨_,_,_,rfl,Nt (NH _ _) HV.1,by omega,No _,by simp[go_sem];omega,?_⟩;have hr:=((ab.row.of_block (NT wr (.cells #[.int .u64 (rv:Int)] 174) _ bs)).of_block (NF _ ⟨w.heap.size+1,0,none⟩ (.slice (some ⟨w.heap.size+3,0,none⟩) n n) _ (by simp))).of_block (NF _ ⟨w.heap.size+1+1,0,none⟩ (.slice wr.heap.size 1 1) _ (by simp));exact hr.wds_of (No _) (fun j hj=>by rw[if_pos (by omega)])
   ·refine⟨_,_,_,rfl,by rw[Nat.pow_one];omega,by omega,No _,by simp[go_sem],fun j hj=>?_⟩;have e:j=0:=by omega
    rw[e,jT,Nk (by omega)];rw[NL (w:=wr.alloc (.cells #[.int .u64 (rv:Int)] 174)) ((NF _ _ _ _ (by simp;omega)).trans (NF _ _ _ _ (by simp;omega)))];simp[go_sem]
end
section
open Go Go.RowKit Bf
def Dl{l n:Nat}{P}{o:Oper}{a}{w}{K:Act->World->Prop}{Q}(ab:∀c,o.op≠ .defer c)(h:o.wp P a w K Q):o.wpIn (Fence.wide.inRound l) n P a w K Q:=by
 refine⟨fun _ _=>trivial,?_⟩;show o.uponIn _ n P a K Q ((o.semAt (some l) a.eval).run P w);rw[Oper.semAt_some l _ o ab];unfold Oper.wp at h;generalize (execOp a.eval o).run P w=r at *
 cases r with
 |ok x w'=>
  cases x <;> simp only[Oper.upon,Oper.uponIn]at h⊢ <;>
   first
    |exact h
    |exact⟨fun e=>by simp[Fence.wide]at e,callsIn_wide.2 h⟩
    |exact⟨fun e=>by simp[Fence.wide]at e,fun c cs _=>let ⟨v,w',r,s⟩:=h c cs;⟨v,w',r,stepsIn_wide.2 s⟩⟩
 |halt x w'=>cases x <;> simp only[Oper.upon,Oper.uponIn]at h⊢ <;> exact h
def Do{l n:Nat}{P}{ops}{Q}(hq:¬LetsOut Q)(ab:∀(i:Nat)(o),ops[i]? = some o->∀c,o.op≠ .defer c){i:Nat}{K:Act->World->Prop}{a}{w}(h:wpOp P ops Q i K a w):wpOpIn (Fence.wide.inRound l) n P ops Q i K a w:=by
 unfold wpOp at h;unfold wpOpIn
 cases ho:ops[i]? with
 |none=>simpa[ho]using h
 |some o=>
  simp only[ho]at h⊢
  split at h
  ·rename_i hw
   rw[if_pos hw]
   rcases h with h|⟨_,h⟩
   ·exact Dl (ab i o ho) h
   ·exact(hq h).elim
  ·rename_i hw
   rw[if_neg hw]
   exact⟨fun _ _=>trivial,h⟩
def Dp{l n:Nat}{P}{md:Region.Mode}{ops}{Q}(hq:¬LetsOut Q)(ab:∀(i:Nat)(o),ops[i]? = some o->∀c,o.op≠ .defer c):∀(fuel:Nat)(listed:Array Bool) (a:Act) (w:World),wpAny P md ops Q fuel listed a w->wpAnyIn (Fence.wide.inRound l) n P md ops Q fuel listed a w:=by
 intro fuel;induction fuel with
 |zero=>intro listed a w h;exact h
 |succ fuel ih=>
  intro listed a w h
  exact⟨h.1,fun i hi=>wpOpIn_mono (fun a w h=>ih _ a w h) (Do hq ab (h.2 i hi))⟩
def rU(ops:Array Oper):Bool:=ops.all fun o=>match o.op with |.defer _=>false|_=>true
def Dq{ops}(h:rU ops=true)(i:Nat)(o)(ho:ops[i]? = some o):∀c,o.op≠ .defer c:=by
 intro c hc;have:=Array.all_eq_true.1 h;obtain⟨hi,e⟩:=NX.1 ho;have:=this i hi;rw[e]at this;simp[hc]at this
def cZ(Q:Exit->Act->World->Prop):Exit->Act->World->Prop
 |.panic _,_,_=>False
 |.outgrown,_,_=>False
 |e,a,w=>Q e a w
def cZ.normal{Q}{a}{w}(h:Q .normal a w):cZ Q .normal a w:=h
def cZ.imp{Q}:∀(e:Exit)(a:Act) (w:World),cZ Q e a w->Q e a w:=fun e a w h=>by
 cases e <;> first|exact h|exact(h:False).elim
def cZ.shut(Q):¬LetsOut (cZ Q):=fun⟨_,_,h⟩=>h
def mR{l n id:Nat}{P:Program}{ops}{Q}{S:World->Prop}{a}{w:World}(hm:P.follows .mixedOrders=true)(ab:rU ops=true)(hS:S w.drew)(h:S w.drew->wpAnyH P .any ops (cZ Q) S ops.size (Array.replicate ops.size false) a w.drew):(Code.region id ops true).wpIn (Fence.wide.inRound l) n P Q a w:=
 wpIn_mono (wpIn_region_any hm (Dp (cZ.shut Q) (Dq ab) _ _ _ _ (wpAny_of_held _ _ _ _ (h hS)))) cZ.imp
def eM{l rest:List Oper}{i:Nat}{o:Oper}(h:l.drop i=o::rest):l.toArray[i]? = some o:=by
 have:=congrArg (fun x=>x[0]?) h;simpa using this
def Dr{P}{md:Region.Mode}{l rest:List Oper}{Q}{S:World->Prop}{i:Nat}{oi:Oper}{v}{fuel:Nat}{listed:Array Bool}{a:Act}{w}(hl:l.drop i=oi::rest)(hs:Region.noSelect l.toArray=true)(hf:Region.free md l.toArray listed i=true)(hr:(Region.ready md l.toArray listed).contains i=true)(hw:Region.wanted oi (yielded l.toArray a.tmps)=true)(hS:S w)(hy:∀w,S w->(execOp a.eval oi).run P w=.ok (.value v) w)(h:wpAnyH P md l.toArray (cZ Q) S fuel (listed.setIfInBounds i true) (a.put oi.dst v) w):wpAnyH P md l.toArray (cZ Q) S (fuel+1) listed a w:=
 wpAnyH_take (eM hl) hs hf hr (fun _ _ _ h=>h) (Or.inl ⟨hw,hy⟩) hS h
def Ds{P}{md:Region.Mode}{l rest:List Oper}{Q}{S:World->Prop}{fuel:Nat}{listed:Array Bool}{a}{w}{i:Nat}{o:Oper}{rs:List Nat}(hl:l.drop i=o::rest)(h:∀K':Act->World->Prop,Shut (∀a w,S w->(S w->wpAnyH P md l.toArray Q S fuel (listed.setIfInBounds i true) a w)->K' a w)->if Region.wanted o (yielded l.toArray a.tmps)=true then Oper.wp P o a w K' Q else K' (a.put o.dst undef) w)(hs:AllReadyH P md l.toArray Q S fuel listed a w rs):AllReadyH P md l.toArray Q S fuel listed a w (i::rs):=AllReadyH.cons (eM hl) h hs
def PT:(∀(a:Act)(t:Tmp) (v:Value),a.put (some t) v={a with tmps:=a.tmps.setIfInBounds t v})/\(∀(a:Act)(v:Value),a.put none v=a)/\(∀(l:List Value)(i:Nat) (v:Value),l.toArray.setIfInBounds i v=(l.set i v).toArray)/\(∀(x:Value)(l:List Value) (v:Value),(x::l).set 0 v=v::l)/\(∀(x:Value)(l:List Value) (i:Nat) (v:Value),(x::l).set (i+1) v=x::l.set i v):=
 ⟨fun _ _ _=>rfl,fun _ _=>rfl,fun _ _ _=>NY _ _ _,fun _ _ _=>rfl,fun _ _ _ _=>rfl⟩
section
variable {P:Program} {md:Region.Mode} {l rest:List Oper} {Q:Exit->Act->World->Prop} {S:World->Prop} {o:Oper} {v:Value} {fuel:Nat} {listed:Array Bool} {a a':Act} {w:World} {is:List Nat}
def rH(i:Nat)(h:wpAnyH P md l.toArray (cZ Q) S fuel (listed.setIfInBounds i true) a' w)(hl:l.drop i=o::rest:=by rfl)(hs:Region.noSelect l.toArray=true:=by kernel_rfl)(hf:Region.free md l.toArray listed i=true:=by kernel_rfl)(hr:(Region.ready md l.toArray listed).contains i=true:=by kernel_rfl)(hw:Region.wanted o (yielded l.toArray a.tmps)=true:=by rfl)(hS:S w:=by assumption)(hy:∀w,S w->(execOp a.eval o).run P w=.ok (.value v) w:=by(intro w ab;(try dsimp only at ab);go_simp;try(with_reducible rfl)))(e:a.put o.dst v=a':=by(try simp only[PT]);try rfl):wpAnyH P md l.toArray (cZ Q) S (fuel+1) listed a w:=by
 subst e;exact Dr hl hs hf hr hw hS hy h
def rR{ops}(rs:List Nat)(h:AllReadyH P md ops Q S fuel listed a w rs)(hr:Region.ready md ops listed=rs:=by kernel_rfl)(ab:rs≠[]:=by simp):wpAnyH P md ops Q S (fuel+1) listed a w:=wpAnyH_ready hr ab h
def rC{rs:List Nat}(i:Nat)(h:∀K':Act->World->Prop,Shut (∀a w,S w->(S w->wpAnyH P md l.toArray Q S fuel (listed.setIfInBounds i true) a w)->K' a w)->if Region.wanted o (yielded l.toArray a.tmps)=true then Oper.wp P o a w K' Q else K' (a.put o.dst undef) w)(hs:AllReadyH P md l.toArray Q S fuel listed a w rs)(hl:l.drop i=o::rest:=by rfl):AllReadyH P md l.toArray Q S fuel listed a w (i::rs):=Ds hl h hs
def hG{K:Act->World->Prop}{G:Act->World->Prop}(hK:Shut (∀a w,S w->(S w->G a w)->K a w))(hs:S w)(h:S w->G a' w)(e:a=a':=by(try simp only[PT]);try rfl):K a w:=by
 subst e;exact hK.out _ _ hs h
end
end
namespace Bf
def lh(U M:Nat)(s:Nat×Nat)(x:Nat×Nat):Nat×Nat:=
 if U<=(2*s.1+x.2)%18446744073709551616^M then((2*s.1+x.2)%18446744073709551616^M-U,s.2 |||2^x.1)else((2*s.1+x.2)%18446744073709551616^M,s.2)
def jr(V many:Nat)(k:Nat):List (Nat×Nat):=(List.range k).map fun j=>(many-1-j,V/2^(many-1-j)%2)
def Dt(V many k:Nat):jr V many (k+1)=jr V many k++[(many-1-k,V/2^(many-1-k)%2)]:=by simp[jr,List.range_succ]
def Du(K i:Nat):(2^(i+1)*K) |||2^i=2^(i+1)*K+2^i:=by
 apply Nat.eq_of_testBit_eq;intro b;rw[Nat.or_comm,Nat.add_comm (2^(i+1)*K),M8 (2^(i+1))];have ab:2^i<2^(i+1):=Nat.pow_lt_pow_right (by omega) (by omega);rw[Nat.testBit_or,rJ ab];by_cases hb:b<i+1
 ·rw[if_pos hb,M8 K,Nat.testBit_two_pow_mul];simp;intro h;omega
 ·rw[if_neg hb,M8 K,Nat.testBit_two_pow_mul,Nat.testBit_two_pow];have:¬i=b:=by omega
  simp[this];intro h;omega
def Dv{V U M many:Nat}(hU:0<U)(hM:2*U<=18446744073709551616^M)(h:V/2^many<U):∀k,k<=many->(jr V many k).foldl (lh U M) (V/2^many,0)=((V/2^(many-k))%U,V/U/2^(many-k)*2^(many-k)):=by
 intro k;induction k with
 |zero=>
  intro _
  have e:V/U/2^many=0:=by
   rw[Nq,M8,<-Nq];exact Nj h
  simp[jr,Nk h,e]
 |succ k ih=>
  intro hk
  rw[Dt,List.foldl_append,ih (by omega)]
  obtain⟨i,hi⟩:∃i,many-k=i+1:=⟨many-k-1,by omega⟩
  rw[show many-1-k=i from by omega,show many-(k+1)=i from by omega,hi]
  have hs:=Ca (V:=V) (b:=U) (i:=i) hU
  have hr:=Ni (V/2^(i+1)) hU
  have ht:V/2^i%2<2:=Ni _ (by omega)
  simp only[List.foldl_cons,List.foldl_nil,lh]
  rw[Nk (by omega:2*(V/2^(i+1)%U)+V/2^i%2<18446744073709551616^M)]
  split at hs
  ·rename_i hc
   rw[if_pos hc,hs.1,hs.2]
   rw[M8 (V/U/2^(i+1)),Du,M7]
   congr 1
   generalize V/U/(2^i*2)=X
   rw[Nat.add_mul,Nat.one_mul,M8 2 X,Nat.mul_assoc X,M8 2 (2^i),M8 X]
  ·rename_i hc
   rw[if_neg hc,hs.1,hs.2]
   congr 1
   rw[M7,M8 2,Nat.mul_assoc,M8 2]
def Dw{V U M many:Nat}(hU:0<U)(hM:2*U<=18446744073709551616^M)(h:V/2^many<U) :(jr V many many).foldl (lh U M) (V/2^many,0)=(V%U,V/U):=by
 rw[Dv hU hM h many (No _)];simp
def carry(R bit k:Nat):Nat:=if k=0 then bit else word R (k-1)/2^63
def wm{R bit:Nat}(hb:bit<2)(k:Nat):carry R bit k<2:=by
 unfold carry;split
 ·exact hb
 ·exact Nat.div_lt_of_lt_mul (by simpa using dD R (k-1))
def Dx(R bit k:Nat)(hb:bit<2):word (2*R+bit) k=(word R k <<< 1)%18446744073709551616 |||carry R bit k:=by
 apply Nat.eq_of_testBit_eq;intro b;have hT:∀x,(2*R+bit).testBit x=if x=0 then bit.testBit 0 else R.testBit (x-1):=fun x=>by
  have:=rJ (V:=bit) (c:=R) (k:=1) (b:=x) (by simpa using hb);rw[Nat.pow_one,M8 R 2,Nat.add_comm bit]at this;rw[this];by_cases hx:x=0
  ·subst hx;simp
  ·rw[if_neg (by omega),if_neg hx]
 have hc:(carry R bit k).testBit b=(decide (b=0)&&if k=0 then bit.testBit 0 else R.testBit (64*k-1)):=by
  by_cases ab:b=0
  ·subst ab;unfold carry;by_cases hk:k=0
   ·simp[hk]
   ·simp only[if_neg hk,decide_true,Np];rw[Nat.testBit_div_two_pow,dE];rw[show 64*(k-1)+(0+63)=64*k-1 from by omega];simp
  ·have:=wm (R:=R) hb k;rw[Nat.testBit_lt_two_pow (Nf this (by have:=Nat.one_lt_two_pow (n:=b) ab;omega))];simp[ab]
 rw[dE,hT,Nat.testBit_or,hc];have hm:(18446744073709551616:Nat)=2^64:=by decide
 rw[hm,Nat.testBit_mod_two_pow,Nat.testBit_shiftLeft,dE];by_cases ab:b=0
 ·subst ab;by_cases hk:k=0
  ·simp[hk]
  ·simp[hk];intro h;omega
 ·by_cases ac:b<64
  ·have e:64*k+b-1=64*k+(b-1):=by omega
   simp[ab,ac,e,show 1<=b from by omega,show b-1<64 from by omega]
  ·simp[ab,ac]
def Dy(R bit k:Nat):carry R bit (k+1)=word R k/2^63:=by simp[carry]
def Dz(Q i j:Nat):word (Q |||2^i) j=if j=i/64 then word Q j |||2^(i%64)else word Q j:=by
 apply Nat.eq_of_testBit_eq;intro b;rw[dE,Nat.testBit_or,Nat.testBit_two_pow];by_cases hj:j=i/64
 ·rw[if_pos hj,Nat.testBit_or,dE,Nat.testBit_two_pow];by_cases ab:b<64
  ·have:(i=64*j+b)=(i%64=b):=by apply propext;omega
   simp[ab,this]
  ·have:¬i%64=b:=by omega
   simp[ab,this]
 ·rw[if_neg hj,dE];by_cases ab:b<64
  ·have:¬(i=64*j+b):=by omega
   simp[ab,this]
  ·simp[ab]
end Bf
section
open Go Go.RowKit Bf
attribute [local go_sem] Oper.semAt_some
abbrev oX(L:Nat):={x:Nat×Nat // x.1<L/\x.2<2}
def oY(L:Nat)(x:oX L):Array Value:=#[.int .i64 (x.1.1:Int),.int .u64 (x.1.2:Int)]
def d8(b d:Nat)(W W':World):Prop:=∀(p:Addr)(v:Value),(p.block=b\/p.block=d)->W.cell? p=some v->W'.cell? p=some v
def d8.refl(b d:Nat)(W):d8 b d W W:=fun _ _ _ h=>h
def d8.trans{b d:Nat}{A B C}(h:d8 b d A B)(k:d8 b d B C):d8 b d A C:=fun p v hp hc=>k p v hp (h p v hp hc)
def d8.book{b d:Nat}{w:World}(W:World)(l:Nat)(o o':Obj)(_:w.heap.size<=l)(h:W.heap[l]? = some o)(ho:o.isCells=false)(_:o.isWalk=false):d8 b d W (W.putObj l o'):=
 fun _ _ _ hc=>cell_kept hc (grownBy_putObj' W l o') (fun r e=>by cases e;exact⟨o,h,ho⟩)
def mS(V many L:Nat)(h:0<many/\many<=L)(j:Nat):oX L:=⟨(many-1-j,V/2^(many-1-j)%2),by show many-1-j<L;omega,Ni _ (by omega)⟩
def gW(V many L:Nat)(h:0<many/\many<=L)(k:Nat):List (oX L):=(List.range k).map (mS V many L h)
def DA(V many L:Nat)(h:0<many/\many<=L)(k:Nat):gW V many L h (k+1)=gW V many L h k++[mS V many L h k]:=by simp[gW,List.range_succ]
def DB(V many L:Nat)(h:0<many/\many<=L)(k:Nat):(gW V many L h k).length=k:=by simp[gW]
def DC(V many L:Nat)(h:0<many/\many<=L)(k:Nat):(gW V many L h k).map (·.1)=jr V many k:=by simp[gW,jr,mS]
def DD(V i:Nat):bits .and .u64 ((word V (i/64):Int)/2^(i%64)) 1=((V/2^i%2:Nat):Int):=by
 have e1:(word V (i/64):Int)/2^(i%64)=((word V (i/64)/2^(i%64):Nat):Int):=by simp
 rw[e1,show(1:Int)=((1:Nat):Int)from rfl,bits_and_u64_nat _ _ (Nt (NH _ _) (dD V _)) (by omega)];congr 1;rw[Nat.and_one_is_mod];have h1:(word V (i/64)/2^(i%64)).testBit 0=(V/2^i).testBit 0:=by
  rw[Nat.testBit_div_two_pow,dE,Nat.testBit_div_two_pow];have:i%64<64:=Ni _ (by omega);rw[show 64*(i/64)+(0+i%64)=0+i from by omega];simp[this]
 simp only[Nat.testBit_zero]at h1;have:=Ni (word V (i/64)/2^(i%64)) (show 2 > 0 by omega);have:=Ni (V/2^i) (show 2 > 0 by omega);have:=decide_eq_decide.1 h1;omega
def DE(nn:Nat)(bb:1<=nn)(l b n c V many L Bm Bw:Nat)(h:0<many/\many<=L)(hm:many<=64*n)(hn:n<=65536)(J Jx:List (oX L)->World->Prop)(hY:∀pre x W,J pre W->pre.length<many->YieldAt Fence.wide (nn-1) prog l (oY L x) W fun e W'=>(e=.returned (.bool true)/\J (pre++[x]) W'/\d8 b Bw W W')\/(e=.returned (.bool false)/\Jx (pre++[x]) W'))(W:World)(av:W.cell? ⟨Bm,0,none⟩=some (.int .i64 (many:Int)))(ag:W.cell? ⟨Bw,0,none⟩=some (.slice b n c))(hc:Wds W b n V)(h0:J [] W) :CallsIn Fence.wide nn prog 218 #[.func (.yield l) #[] #[],.pointer Bm,.pointer Bw] W fun e W'=>(∃v,e=.returned v)/\((∃ys,ys=gW V many L h many/\J ys W')\/(∃pre,True/\Jx pre W')):=by
 have HC:=MY hc;clear hc;refine callsIn_of_wp func218 rfl trivial ?_ rfl;simp only[ntmps218,NV,M6,ND,Nat.reduceAdd,Nat.reduceSub,NZ,N0,N1,N2,M9,MZ];gi_wp2;gi_loopw [4] (fun i wr=>∃k:Nat,k<=many/\i=.int .i64 ((many:Int)-1-k)/\J (gW V many L h k) wr/\d8 b Bw W wr) (fun i _=>(intOf i+1).toNat)
 case atStart=>exact⟨0,Nu _,by simp,h0,d8.refl _ _ _⟩
 case round=>
  obtain⟨k,hk,rfl,ad,ac⟩:=hrel;by_cases ar:k<many
  ·obtain⟨i,hi⟩:∃i:Nat,many-1-k=i:=⟨_,rfl⟩
   have e1:(many:Int)-1-k=(i:Int):=by omega
   rw[e1];obtain⟨fn,tmps,assign,body,hy,hR⟩:=hY _ (mS V many L h k) wr ad (by rw[DB];exact ar);simp only[oY,mS,hi]at hy;have aA:=ac ⟨Bw,0,none⟩ _ (.inr rfl) ag;have ax:=ac ⟨b,i/64,none⟩ _ (.inl rfl) (HC.out (i/64) (by omega));have an:=DD V i;have ba:i<many:=by omega
   generalize V/2^i%2=bit at *;gi_wp2;refine hR.mono ?_;rintro e W3 (⟨rfl,al,ao⟩|⟨rfl,ab⟩)
   ·gi_wp2;go_roundw
    case rel=>exact⟨k+1,by omega,by congr 1;omega,by rw[DA];exact al,ac.trans ao⟩
    case measure=>simp[intOf]
   ·gi_wp2;refine bodyPost_ret (results_none rfl _ _ _) rfl ?_;exact⟨⟨_,rfl⟩,.inr ⟨_,trivial,ab⟩⟩
  ·obtain rfl:k=many:=by omega
   have e1:(k:Int)-1-k= -1:=by omega
   rw[e1];gi_wp2;go_end0;exact⟨⟨_,rfl⟩,.inl ⟨_,rfl,ad⟩⟩
def DF(nn:Nat)(al:1<=nn)(b n c V many L Bm Bw:Nat)(h:0<many/\many<=L)(hm:many<=64*n)(hn:n<=65536)(w:World)(ad:Bm<w.heap.size)(ag:Bw<w.heap.size)(hb:b<w.heap.size)(ab:w.cell? ⟨Bm,0,none⟩=some (.int .i64 (many:Int)))(ac:w.cell? ⟨Bw,0,none⟩=some (.slice b n c))(hc:Wds w b n V) :SeqStopsK Fence.wide nn prog 218 #[.pointer Bm,.pointer Bw] (oY L) (d8 b Bw) (fun xs=>xs=gW V many L h many) (fun _=>True) many w:=fun l J Jx W hW _ _ hY h0=>
 DE nn al l b n c V many L Bm Bw h hm hn J Jx hY W ((hW.cell (p:=⟨Bm,0,none⟩) ad).trans ab) ((hW.cell (p:=⟨Bw,0,none⟩) ag).trans ac) (hc.below hW hb) h0
end
section
open Go.RowKit Bf
attribute [local go_sem ↓] Go.wp_at_zero Go.wp_at_succ
attribute [local go_sem] Oper.semAt_some
def DG{n m V U:Nat}(hV:bz n V)(hU:bz m U)(hn:n<=4096)(al:2<=m)(ad:U<=V):∃many:Nat,(nbits V:Int)-(nbits U:Int)+1=(many:Int)/\0<many/\many<=64*n/\V/2^many<U/\nbits U<=nbits V/\nbits V<=262144:=by
 have ab:U≠0:=fun e=>by have:=(iJ hU).2 e;omega
 have ac:V≠0:=by omega
 obtain⟨a1,a2,a3⟩:=oP ac;obtain⟨b1,b2,b3⟩:=oP ab;have ag:nbits U<=nbits V:=vH (Nt ad a3);have an:nbits V<=64*n:=vH (by rw[<-fu];exact hV.1);refine⟨nbits V-nbits U+1,by omega,by omega,by omega,?_,ag,by omega⟩;refine Nf (Nat.div_lt_of_lt_mul ?_) b2;rw[<-Nn,show nbits V-nbits U+1+(nbits U-1)=nbits V from by omega];exact a3
def wn(v)(N:Nat):madeCells #[v] N=(List.replicate N v).toArray:=by
 apply Array.ext
 ·simp[madeCells]
 ·intro i h1 h2;simp[madeCells,Nat.mod_one]
def DH{W:World}{g N V:Nat}(hV:V<18446744073709551616^N)(h:W.heap[g]? = some (.cells (splice (List.replicate N (Value.int .u64 0)) 0 ((List.range (wlen V)).map fun j=>Value.int .u64 (word V j:Int))).toArray 174 (0,0))):Row W g N (word V):=by
 have hl:=mL hV;refine⟨_,h,by simp[splice];omega,fun i hi=>?_⟩;simp only[splice,N3,M9,List.getElem?_toArray];by_cases hw:i<wlen V
 ·rw[N4 (by simpa using hw)];simp[hw]
 ·rw[N5 (by simpa using hw),oK (Nf (mJ V).1 (Ng (by omega) (by omega)))];simp only[N6,N7,Nm,List.drop_replicate,List.getElem?_replicate];rw[if_pos (by omega)];rfl
structure js(w wr:World)(b' n m c' R Q:Nat):Prop where
 cb:wr.cell? ⟨w.heap.size,0,none⟩=some (.slice b' m c')
 cq:wr.cell? ⟨w.heap.size+1,0,none⟩=some (.slice (some ⟨w.heap.size+3,0,none⟩) n n)
 cr:wr.cell? ⟨w.heap.size+1+1,0,none⟩=some (.slice (some ⟨w.heap.size+4,0,none⟩) (m+1) (m+1))
 fq:wr.frozen? ⟨w.heap.size+1,0,none⟩=false
 fr:wr.frozen? ⟨w.heap.size+1+1,0,none⟩=false
 rq:Row wr (w.heap.size+3) n (word Q)
 rr:Row wr (w.heap.size+4) (m+1) (word R)
 bel:eB w wr
def js.of_blocks{w A B:World}{b' n m c' R Q:Nat}(h:js w A b' n m c' R Q)(e:∀x,w.heap.size<=x->x<=w.heap.size+4->B.heap[x]? = A.heap[x]?)(hb:eB w B):js w B b' n m c' R Q:=
 ⟨(NL (e _ (by simp) (by simp))).trans h.cb,(NL (e _ (by simp) (by simp))).trans h.cq,(NL (e _ (by simp;omega) (by simp))).trans h.cr,
  (NW (e _ (by simp) (by simp))).trans h.fq,(NW (e _ (by simp;omega) (by simp))).trans h.fr,h.rq.of_block (e _ (by omega) (by omega)),h.rr.of_block (e _ (by omega) (by omega)),hb⟩
def DI(x M j:Nat)(hj:j<M):word (x%18446744073709551616^M) j=word x j:=by
 apply Nat.eq_of_testBit_eq;intro b;rw[dE,dE,fu,Nat.testBit_mod_two_pow];by_cases hb:b<64
 ·simp[hb];intro _;omega
 ·simp[hb]
structure bR(h:Nat)(W W':World):Prop where
 os:W'.os=W.os
 tape:W'.tape=W.tape
 output:W'.output=W.output
 size:W'.heap.size=W.heap.size
 block:∀k,k≠h+3->k≠h+4->W'.heap[k]? = W.heap[k]?
def bR.trans{h:Nat}{A B C}(p:bR h A B)(q:bR h B C):bR h A C:=
 ⟨q.os.trans p.os,q.tape.trans p.tape,q.output.trans p.output,q.size.trans p.size,fun k h1 h2=>(q.block k h1 h2).trans (p.block k h1 h2)⟩
def bR.drewN{h:Nat}{A B}(p:bR h A B)(n:Nat):bR h A (B.drewN n):=⟨p.os,p.tape,p.output,p.size,p.block⟩
def bR.drew{h:Nat}{A B}(p:bR h A B):bR h A B.drew:=⟨p.os,p.tape,p.output,p.size,p.block⟩
def bR.of_grown{h:Nat}{A B:World}(hg:A.grownBy B (some (h+4)))(hs:B.heap.size=A.heap.size):bR h A B:=
 ⟨hg.os,hg.tape,hg.output,hs,fun k _ h2=>by
  by_cases hk:k<A.heap.size
  ·exact hg.block k hk (fun e=>h2 (Option.some.inj e))
  ·rw[Array.getElem?_eq_none (by omega),Array.getElem?_eq_none (by omega)]⟩
def bR.set{h j:Nat}{A B}(p:bR h A B)(v):bR h A (B.setCell ⟨h+3,j,none⟩ v):=
 ⟨p.os,p.tape,p.output,by simp[World.setCell,p.size],fun k h1 h2=>(NF _ _ _ _ h1).trans (p.block k h1 h2)⟩
def Row.block_cells{w}{b N:Nat}{f:Nat->Nat}(h:Row w b N f){o:Obj}(ho:w.heap[b]? = some o):o.isCells=true:=by
 obtain⟨cur,h1,_⟩:=h;rw[h1]at ho;cases ho;rfl
def bR.keeps{h N M:Nat}{A B}{f g:Nat->Nat}(p:bR h A B)(h3:Row A (h+3) N f)(h4:Row A (h+4) M g):KeepsOthers A B:=
 ⟨Nat.le_of_eq p.size.symm,fun k o hk ho=>by
  by_cases e3:k=h+3
  ·subst e3;have:=h3.block_cells hk;rw[this]at ho;cases ho
  by_cases e4:k=h+4
  ·subst e4;have:=h4.block_cells hk;rw[this]at ho;cases ho
  exact(p.block k e3 e4).trans hk⟩
def bR.keep2{h b d:Nat}{A B}(p:bR h A B)(hb:b<h)(hd:h+4<d):d8 b d A B:=fun q v hq hc=>by
 refine(NL (p.block _ ?_ ?_)).trans hc <;> rcases hq with e|e <;> omega
def bR.below{w A B:World}(p:bR w.heap.size A B)(hb:eB w A):eB w B:=
 ⟨p.os.trans hb.os,p.tape.trans hb.tape,p.output.trans hb.output,by have:=hb.size;have:=p.size;omega,fun k hk=>(p.block k (by omega) (by omega)).trans (hb.block k hk)⟩
def js.next{w A B}{b' n m c' R Q R' Q':Nat}(h:js w A b' n m c' R Q)(p:bR w.heap.size A B)(hq:Row B (w.heap.size+3) n (word Q'))(hr:Row B (w.heap.size+4) (m+1) (word R')):js w B b' n m c' R' Q':=
 ⟨(NL (p.block _ (by simp) (by simp))).trans h.cb,(NL (p.block _ (by simp) (by simp))).trans h.cq,(NL (p.block _ (by simp) (by simp))).trans h.cr,
  (NW (p.block _ (by simp) (by simp))).trans h.fq,(NW (p.block _ (by simp) (by simp))).trans h.fr,hq,hr,p.below h.bel⟩
def DJ(w:World)(a:Addr)(u):w.grownBy (w.setCell a u) (some a.block):=
 ⟨rfl,rfl,rfl,by simp[World.setCell],fun k _ hr=>NF _ _ _ _ (fun e=>hr (by rw[e]))⟩
def wq{W wr:World}{h k m R bit:Nat}(an:k<m+1)(ab:bit<2)(ad:Row wr h (m+1) (mix k (word (2*R+bit)) (word R)))(ag:W.grownBy wr (some h))(al:wr.heap.size=W.heap.size) :(∃ac:Nat,ac<=m+1/\Value.int IntKind.i64 ((k:Int)+1)=Value.int IntKind.i64 (ac:Int)/\Value.int IntKind.u64 ((word R k:Int)/9223372036854775808)=Value.int IntKind.u64 (carry R bit ac:Int)/\ Row (wr.setCell ⟨h,k,none⟩ (.int .u64 (bits .or .u64 (IntKind.u64.wrap ((word R k:Int)*2)) (carry R bit k:Int)))).drew h (m+1) (mix ac (word (2*R+bit)) (word R))/\ W.grownBy (wr.setCell ⟨h,k,none⟩ (.int .u64 (bits .or .u64 (IntKind.u64.wrap ((word R k:Int)*2)) (carry R bit k:Int)))).drew (some h)/\(wr.setCell ⟨h,k,none⟩ (.int .u64 (bits .or .u64 (IntKind.u64.wrap ((word R k:Int)*2)) (carry R bit k:Int)))).drew.heap.size=W.heap.size):=by
 have hw:=dD R k;have hv:bits .or .u64 (IntKind.u64.wrap ((word R k:Int)*2)) (carry R bit k:Int)=((word (2*R+bit) k:Nat):Int):=by
  have e:IntKind.u64.wrap ((word R k:Int)*2)=(((word R k <<< 1)%18446744073709551616:Nat):Int):=by
   rw[Nat.shiftLeft_eq,NA];omega
  rw[e,bits_or_u64_nat _ _ (Ni _ (by omega)) (Nat.lt_trans (wm ab k) (by omega)),<-Dx R bit k ab]
 refine⟨k+1,by omega,by congr 1,?_,?_,?_,?_⟩
 ·rw[Dy];congr 1
 ·refine(Row.drew (ad.set k _ hv)).congr fun j _=>?_;simp only[mix];by_cases e:j=k
  ·subst e;rw[if_pos rfl,if_pos (by omega)]
  ·rw[if_neg e];by_cases e2:j<k
   ·rw[if_pos e2,if_pos (by omega)]
   ·rw[if_neg e2,if_neg (by omega)]
 ·exact ag.trans ⟨rfl,rfl,rfl,by simp[World.setCell],(DJ wr ⟨h,k,none⟩ _).block⟩
 ·rw[<-al];simp[World.setCell]
def DK{w}{b n Q i:Nat}(h:Row w b n (word Q)) :Row (w.setCell ⟨b,i/64,none⟩ (.int .u64 (bits .or .u64 (word Q (i/64):Int) (IntKind.u64.wrap (2^(i%64)))))).drew b n (word (Q |||2^i)):=by
 have hp:2^(i%64)<=2^63:=Ng (by omega) (by omega);have hv:IntKind.u64.wrap (2^(i%64))=((2^(i%64):Nat):Int):=by
  rw[NA,show(2:Int)^(i%64)=((2^(i%64):Nat):Int)from by simp];generalize 2^(i%64)=p at *;omega
 rw[hv,bits_or_u64_nat _ _ (dD Q _) (by omega)];refine(Row.drew (h.set (i/64) _ rfl)).congr fun j _=>?_;rw[Dz];by_cases e:j=i/64
 ·rw[if_pos e,if_pos e,e]
 ·rw[if_neg e,if_neg e]
end
section
open Go.RowKit Bf
attribute [local go_sem ↓] Go.wp_at_zero Go.wp_at_succ
attribute [local go_sem] Oper.semAt_some
def DL(A)(n c:Nat)(many:Int)(w) :Calls prog 157 #[.slice A n c,.int .i64 many] w fun e w'=>e=.returned (.func (.func 218) #[] #[.pointer (some ⟨w.heap.size+1,0,none⟩),.pointer w.heap.size])/\ w'=(w.alloc (.cells #[.slice A n c] 114)).alloc (.cells #[.int .i64 many] 3):=by
 go_enter func157,ntmps157;go_wp2;go_ret;exact⟨rfl,rfl⟩
def DM(b b' n m c c' V U:Nat)(w:World)(hV:bz n V)(hU:bz m U)(hn:n<=4096)(hm:m<=4096)(fQ:2<=m)(hb:b<w.heap.size)(hb':b'<w.heap.size)(h:Wds w b n V)(h':Wds w b' m U)(fv:U<=V) :Calls prog 114 #[.slice b n c,.slice b' m c'] w (oW w (V/U) (V%U)):=by
 have el:0<U:=Nat.pos_of_ne_zero fun e=>by have:=(iJ hU).2 e;omega
 obtain⟨many,ca,bk,av,ag,en,cD⟩:=DG hV hU hn fQ fv;have HC:=MY (fun W (hW:eB w W)=>jX b b' n m c c' V U W hV hU (by omega) (by omega) (h.below hW hb) (h'.below hW hb'));have fi:0<=cmpN V U:=by unfold cmpN;split <;> (try split) <;> omega
 have HA:=MY (fun W (hW:eB w W)=>h.below hW hb);have ec:=MY (fun W (hW:eB w W)=>h'.below hW hb');have HV:=MY hV;have HU:=MY hU;have dy:=MY (fun W (hW:eB w W)=>vW b n c V W hV (by omega) (h.below hW hb));have dT:=MY (fun W (hW:eB w W)=>vW b' m c' U W hU (by omega) (h'.below hW hb'));have et:=fun W:World=>jV n (by omega) W;have cd:∀W:World,_:=fun W:World=>jV (m+1) (by omega) W;clear hV hU h h';generalize cmpN V U=cm at *;have gv:decide (cm<0)=false:=by simp;omega
 have tm:((m:Int)==1)=false:=by simp;omega
 refine(callsIn_wide (n:=9)).1 ?_;refine callsIn_of_wp_marks func114 rfl trivial ?_ rfl;refine wpIn_wide.2 ?_;simp only[ntmps114,NV,M6,ND,Nat.reduceAdd,Nat.reduceSub,NZ,N0,N1,N2,M9,MZ];go_wp2_with fail;have bg:=MY ((((NB w.heap.size w).alloc (No _) (.cells #[.slice b' m c'] 114)).alloc (by simp) (.cells #[.slice none 0 0] 114)).alloc (by simp;omega) (.cells #[.slice none 0 0] 114));refine(HC.out _ bg.out).mono ?_;rintro e w1 ⟨rfl,q,hq⟩;have cv:Hid (eB w w1):=by rw[hq];exact⟨bg.os,bg.tape,bg.output,bg.size,bg.block⟩
 have c0:w1.cell? ⟨w.heap.size,0,none⟩=some (.slice b' m c'):=by rw[hq];simp[go_sem]
 have c1:w1.cell? ⟨w.heap.size+1,0,none⟩=some (.slice none 0 0):=by rw[hq];simp[go_sem]
 have c2:w1.cell? ⟨w.heap.size+1+1,0,none⟩=some (.slice none 0 0):=by rw[hq];simp[go_sem]
 have f1:w1.frozen? ⟨w.heap.size+1,0,none⟩=false:=by rw[hq];simp[go_sem]
 have f2:w1.frozen? ⟨w.heap.size+1+1,0,none⟩=false:=by rw[hq];simp[go_sem]
 have hs:w1.heap.size=w.heap.size+3:=by rw[hq];simp[go_sem]
 clear hq bg HC;have cc:=et w1;rw[hs]at cc;clear et;have HS:=MY hs;have d0:∀o,(w1.alloc o).cell? ⟨w.heap.size,0,none⟩=some (.slice b' m c'):=fun o=>by rw[NJ _ _ _ (by simp;omega)];exact c0
 have d1:∀o,(w1.alloc o).cell? ⟨w.heap.size+1,0,none⟩=some (.slice none 0 0):=fun o=>by rw[NJ _ _ _ (by simp;omega)];exact c1
 have g1:∀o,(w1.alloc o).frozen? ⟨w.heap.size+1,0,none⟩=false:=fun o=>by rw[NW (w:=w1) (NT w1 o _ (by simp;omega))];exact f1
 clear hs;go_wp2;obtain⟨wA,aA⟩:=nm ((w1.alloc (.cells (madeCells #[.int .u64 0] n) 174)).setCell ⟨w.heap.size+1,0,none⟩ (.slice (some ⟨w.heap.size+3,0,none⟩) n n));rw[aA];have bl:∀x,x≠w.heap.size+1->wA.cell? ⟨x,0,none⟩=(w1.alloc (.cells (madeCells #[.int .u64 0] n) 174)).cell? ⟨x,0,none⟩:=fun x hx=>by rw[<-aA];exact NL (w:=w1.alloc _) (NF _ _ _ x hx)
 have a0:wA.cell? ⟨w.heap.size,0,none⟩=some (.slice b' m c'):=by rw[bl _ (by omega)];exact d0 _
 have a1:wA.cell? ⟨w.heap.size+1,0,none⟩=some (.slice (some ⟨w.heap.size+3,0,none⟩) n n):=by rw[<-aA];exact World.cell?_setCell_same' _ _ _ (by rw[d1];rfl)
 have a2:wA.cell? ⟨w.heap.size+1+1,0,none⟩=some (.slice none 0 0):=by rw[bl _ (by omega),NJ _ _ _ (by have:=HS.out;simp;omega)];exact c2
 have e1:wA.frozen? ⟨w.heap.size+1,0,none⟩=false:=by rw[<-aA,World.frozen?_setCell];exact g1 _
 have e2:wA.frozen? ⟨w.heap.size+1+1,0,none⟩=false:=by rw[<-aA,World.frozen?_setCell,NW (w:=w1) (NT w1 _ _ (by have:=HS.out;simp;omega))];exact f2
 have RQ:Hid (Row wA (w.heap.size+3) n (word 0)):=by
  have hr:Row (w1.alloc (.cells (madeCells #[.int .u64 0] n) 174)) (w.heap.size+3) n (fun _=>0):=by
   rw[<-HS.out];exact Row.of_rowIs (World.rowIs_made w1 _ _ _)
  rw[<-aA];exact(hr.of_block (NF _ _ _ _ (by simp))).congr fun i hi=>by simp[word]
 have BA:Hid (eB w wA):=by rw[<-aA];exact(cv.alloc cv.size _).setCell (p:=⟨w.heap.size+1,0,none⟩) (by simp) _
 have SA:Hid (wA.heap.size=w.heap.size+4):=by rw[<-aA];have:=HS.out;show _=_;simp[go_sem];omega
 clear aA bl d0 d1 g1 c0 c1 c2 f1 f2 cc cv HS;have eA:IntKind.i64.wrap (IntKind.i64.wrap ((nbits V:Int)-(nbits U:Int))+1)=(many:Int):=by
  rw[<-ca,NC,NC];omega
 have bp:=MY (dy.out wA.drew BA.drew);have eb:=MY (dT.out wA.drew BA.drew);clear dy dT;go_region_held3 (fun w'=>w'.cell? ⟨w.heap.size,0,none⟩=some (.slice b' m c')) (first|exact a0|go_keep)
  (first|(go_at_call 156;with_reducible refine bp.out.mono ?_;rintro e w2 ⟨rfl,rfl⟩)|(go_at_call 156;with_reducible refine eb.out.mono ?_;rintro e w2 ⟨rfl,rfl⟩))
 have cf:=cd wA.drew;rw[show((m+1:Nat):Int)=(m:Int)+1 from by omega,show wA.drew.heap.size=w.heap.size+4 from SA.out]at cf;clear cd eA bp eb;have cu:wA.heap.size=w.heap.size+4:=SA.out;have d2:∀o,(wA.alloc o).cell? ⟨w.heap.size+1+1,0,none⟩=some (.slice none 0 0):=fun o=>by rw[NJ _ _ _ (by simp;omega)];exact a2
 have g2:∀o,(wA.alloc o).frozen? ⟨w.heap.size+1+1,0,none⟩=false:=fun o=>by rw[NW (w:=wA) (NT wA o _ (by simp;omega))];exact e2
 clear cu;go_wp2;obtain⟨wB,bm⟩:=nm ((wA.alloc (.cells (madeCells #[.int .u64 0] (m+1)) 174)).setCell ⟨w.heap.size+1+1,0,none⟩ (.slice (some ⟨w.heap.size+4,0,none⟩) (m+1) (m+1)));rw[bm];have cu:wA.heap.size=w.heap.size+4:=SA.out;have bl:∀x,x≠w.heap.size+1+1->wB.heap[x]? = (wA.alloc (.cells (madeCells #[.int .u64 0] (m+1)) 174)).heap[x]?:=fun x hx=>by rw[<-bm];exact NF _ _ _ x hx
 have ax:∀x,x≠w.heap.size+1+1->x<w.heap.size+4->wB.heap[x]? = wA.heap[x]?:=fun x hx hl=>(bl x hx).trans (NT _ _ _ (by omega));have b0:wB.cell? ⟨w.heap.size,0,none⟩=some (.slice b' m c'):=(NL (ax _ (by simp;omega) (by simp))).trans a0;have b1:wB.cell? ⟨w.heap.size+1,0,none⟩=some (.slice (some ⟨w.heap.size+3,0,none⟩) n n):=(NL (ax _ (by simp) (by simp))).trans a1;have b2:wB.cell? ⟨w.heap.size+1+1,0,none⟩=some (.slice (some ⟨w.heap.size+4,0,none⟩) (m+1) (m+1)):=by rw[<-bm];exact World.cell?_setCell_same' _ _ _ (by rw[d2];rfl)
 have i1:wB.frozen? ⟨w.heap.size+1,0,none⟩=false:=(NW (ax _ (by simp) (by simp))).trans e1;have i2:wB.frozen? ⟨w.heap.size+1+1,0,none⟩=false:=by rw[<-bm,World.frozen?_setCell];exact g2 _
 have ee:Hid (Row wB (w.heap.size+3) n (word 0)):=RQ.of_block (ax _ (by omega) (by omega));have RR:Hid (wB.heap[w.heap.size+4]? = some (.cells (List.replicate (m+1) (Value.int .u64 0)).toArray 174 (0,0))):=by
  show _=_;rw[bl _ (by omega),<-cu,N8];rw[wn]
 have BB:Hid (eB w wB):=by rw[<-bm];exact(BA.alloc BA.size _).setCell (p:=⟨w.heap.size+1+1,0,none⟩) (by simp;omega) _
 have SB:Hid (wB.heap.size=w.heap.size+5):=by rw[<-bm];show _=_;simp[go_sem];omega
 clear bm bl ax cu d2 g2 a0 a1 a2 e1 e2 RQ BA SA cf;have dl:=MY (rS b n c V wB.drew.drew (by omega) (by show b<wB.heap.size;have:=SB.out;omega) (HA.out _ BB.drew.drew));have gu:wlen (V/2^many)<=m:=mL (Nat.lt_trans ag HU.1);have go:wlen (V/2^many)<=n:=mL (Nt (NH _ _) HV.1);go_region_held3 (fun w'=>w'.cell? ⟨w.heap.size+1+1,0,none⟩=some (.slice (some ⟨w.heap.size+4,0,none⟩) (m+1) (m+1))) (first|exact b2|go_keep)
  (first
   |(go_at_call 95;refine dl.mono ?_;rintro e w2 ⟨gg,cap,rfl,es,br,ac,al⟩;have db:w.heap.size+5<=gg:=(by have e5:wB.heap.size=w.heap.size+5:=SB.out;have e6:wB.heap.size<=gg:=es;omega);have k2:w2.cell? ⟨w.heap.size+1+1,0,none⟩=some (.slice (some ⟨w.heap.size+4,0,none⟩) (m+1) (m+1)):=((al.cell (p:=⟨w.heap.size+1+1,0,none⟩) (by have:wB.heap.size=w.heap.size+5:=SB.out;show w.heap.size+1+1<wB.heap.size;omega)).trans b2))
   |(go_at_call 96;refine(shift_any gg n n cap V many (word V) w2 HV.1 (fun _ _=>rfl) (No _) (by omega) br (by omega) ac).mono ?_;rintro e w3 ⟨rfl,be,co,ga⟩;have k3:w3.cell? ⟨w.heap.size+1+1,0,none⟩=some (.slice (some ⟨w.heap.size+4,0,none⟩) (m+1) (m+1)):=co.cell k2 (fun e=>by have e':w.heap.size+1+1=gg:=Option.some.inj e;omega))
   |skip
    refine step_copy_splice rfl (.tmp 58) (.tmp 62) 114 114 rfl 174 underlying114 (by kernel_rfl) (some ⟨w.heap.size+4,0,none⟩) (some ⟨gg,0,none⟩) (m+1) (m+1) (wlen (V/2^many)) cap rfl rfl (w.heap.size+4) 0 (List.replicate (m+1) (Value.int .u64 0)) 174 ?q1 ((List.range (wlen (V/2^many))).map fun j=>Value.int .u64 (word (V/2^many) j:Int)) ?q2 ?q3 ?q4 ?q5 (w.heap.size+4) wB ?q6 (No _) ?_
    case q1=>exact(co.block _ (by have e5:wB.heap.size=w.heap.size+5:=SB.out;have e6:=al.size;have e7:wB.heap.size<=w2.heap.size:=e6;omega) (fun e=>by have e':=Option.some.inj e;omega)).trans ((al.block _ (by have e5:wB.heap.size=w.heap.size+5:=SB.out;show _<wB.heap.size;omega)).trans RR.out)
    case q2=>simp[Nat.min_def];omega
    case q3=>exact fun _=>⟨rfl,_,rfl,fun j v hj=>by
     have fx:j<wlen (V/2^many):=by have:=(NQ.1 hj).1;simpa using this
     have hv:v=.int .u64 (word (V/2^many) j:Int):=by simp[fx]at hj;exact hj.symm
     rw[hv];have:=be.cell (i:=j) (by omega);simp only[mix]at this;rw[if_pos (by omega)]at this;have ea:(⟨gg,0,none⟩:Addr).add j=⟨gg,j,none⟩:=by simp[Addr.add];omega
     rw[ea];exact this⟩
    case q4=>simp;omega
    case q5=>intro v hv;simp at hv;obtain⟨j,_,rfl⟩:=hv;rfl
    case q6=>
     have e5:wB.heap.size=w.heap.size+5:=SB.out
     have eY:Below (w.heap.size+4) wB wB.drew.drew:=((NB _ wB).drew).drew
     have fb:=eY.trans (al.mono (show w.heap.size+4<=wB.heap.size by omega))
     exact fb.grown co (by have e6:wB.heap.size<=w2.heap.size:=al.size;omega) (fun k e=>by cases e;omega)
    intro w4 er bd;have k4:w4.cell? ⟨w.heap.size+1+1,0,none⟩=some (.slice (some ⟨w.heap.size+4,0,none⟩) (m+1) (m+1)):=(bd.cell (p:=⟨w.heap.size+1+1,0,none⟩) (by simp)).trans b2)
 have k0:w4.cell? ⟨w.heap.size,0,none⟩=some (.slice b' m c'):=(bd.cell (p:=⟨w.heap.size,0,none⟩) (by simp)).trans b0;have k1:w4.cell? ⟨w.heap.size+1,0,none⟩=some (.slice (some ⟨w.heap.size+3,0,none⟩) n n):=(bd.cell (p:=⟨w.heap.size+1,0,none⟩) (by simp)).trans b1;have j1:w4.frozen? ⟨w.heap.size+1,0,none⟩=false:=(NW (bd.block _ (by simp))).trans i1;have j2:w4.frozen? ⟨w.heap.size+1+1,0,none⟩=false:=(NW (bd.block _ (by simp))).trans i2;have ed:Row w4 (w.heap.size+3) n (word 0):=ee.of_block (bd.block _ (by omega));have ef:Row w4 (w.heap.size+4) (m+1) (word (V/2^many)):=DH (Nat.lt_trans ag (Nf HU.1 (Ng (by omega) (by omega)))) er.out;have di:eB w w4:=BB.trans (bd.mono (by omega));have HD:=MY (And.intro ed (And.intro ef (And.intro di (And.intro k0 (And.intro k1 (And.intro k4 (And.intro j1 j2)))))));clear ed ef di k0 k1 j1 j2 k4 bd er co ga be ac al k2 k3 b0 b1 b2 i1 i2 ee RR BB SB dl es db br;go_wp2_with (go_at_call 157;refine(DL _ _ _ _ _).mono ?_;rintro e w5 ⟨rfl,rfl⟩);refine(wpIn_wide (n:=9)).1 ?_;have bb:∀x,x<w4.heap.size->((w4.alloc (.cells #[.slice b n c] 114)).alloc (.cells #[.int .i64 (many:Int)] 3)).heap[x]? = w4.heap[x]?:=fun x hx=>(NT _ _ _ (by simp;omega)).trans (NT _ _ _ hx);obtain⟨w5,bo⟩:=nm ((w4.alloc (.cells #[.slice (some ⟨b,0,none⟩) n c] 114)).alloc (.cells #[.int .i64 (many:Int)] 3))
 have fe:w5.cell? ⟨w4.heap.size+1,0,none⟩=some (.int .i64 (many:Int)):=by rw[<-bo];simp[go_sem]
 have fl:w5.cell? ⟨w4.heap.size,0,none⟩=some (.slice b n c):=by rw[<-bo];simp[go_sem]
 have gs:w5.heap.size=w4.heap.size+2:=by rw[<-bo];simp[go_sem]
 have cz:eB w w5:=by rw[<-bo];exact(HD.2.2.1.alloc HD.2.2.1.size _).alloc (by have:=HD.2.2.1.size;simp;omega) _
 rw[bo]at bb⊢;clear bo;have gb:js w w5 b' n m c' (V/2^many) 0:=by
  obtain⟨q1,q2,q3,q4,q5,q6,q7,q8⟩:=HD.out;have hl:=q2.lt;refine⟨?_,?_,?_,?_,?_,q1.of_block (bb _ (by omega)),q2.of_block (bb _ hl),?_⟩
  ·exact(NL (bb _ (by simp;omega))).trans q4
  ·exact(NL (bb _ (by simp;omega))).trans q5
  ·exact(NL (bb _ (by simp;omega))).trans q6
  ·exact(NW (bb _ (by simp;omega))).trans q7
  ·exact(NW (bb _ (by simp;omega))).trans q8
  ·exact cz
 have fc:b<w5.heap.size:=Nf hb cz.size;have gp:w.heap.size+4<w4.heap.size:=HD.2.1.lt;refine' wpIn_rangeFunc_ownF rfl (by omega) (gf:=218) (lb:=#[.pointer (some ⟨w4.heap.size+1,0,none⟩),.pointer w4.heap.size]) rfl trivial (enters_of func218 (by kernel_rfl) rfl)
  (DF 8 (by omega) b n c V many (64*n) (w4.heap.size+1) w4.heap.size ⟨bk,av⟩ av (by omega) w5 (by omega) (by omega) fc fe fl (HA.out _ cz)) d8.trans d8.book (NB _ _) (fun _=>rfl)
  (fun pre W=>∃R Q,(R,Q)=(pre.map (·.1)).foldl (lh U (m+1)) (V/2^many,0)/\js w W b' n m c' R Q)
  (fun _ _ _=>False) ?hI (fun _ _ _ _ _ hs _ _=>hs) ⟨_,_,rfl,gb⟩ _ ?assign ?body ?done ?stop
 case hI=>
  rintro pre A B row ⟨R,Q,e,hd⟩ hg hr;have hl:=hd.rr.lt;refine⟨R,Q,e,hd.of_blocks (fun x h1 h2=>hg.block x (by omega) (fun e'=>?_)) (hd.bel.grown hg (by have:=hd.bel.size;omega) (fun k e'=>by have:=(hr k e').1;omega))⟩;have:=(hr x e'.symm).1;omega
 case assign=>
  intro l x W K hK;simp only[oY];gi_wp2;exact hK
 case body=>
  rintro l pre ⟨⟨i,bit⟩,hi,bh⟩ W ⟨R,Q,e,hd⟩ _;simp only[]at hi bh⊢;have bv:=hd.cr;have ar:=MY hd;clear hd;gi_wp2;have gr:=ar.rr.lt;gi_loopw [10,71] (fun bt jj wr=>∃k:Nat,k<=m+1/\jj=.int .i64 (k:Int)/\bt=.int .u64 (carry R bit k:Int)/\Row wr (w.heap.size+4) (m+1) (mix k (word (2*R+bit)) (word R))/\W.grownBy wr (some (w.heap.size+4))/\wr.heap.size=W.heap.size) (fun _ jj _=>m+1-(intOf jj).toNat)
  case atStart=>
   refine⟨0,by omega,rfl,by simp[carry],ar.rr.congr (fun j _=>by simp[mix]),World.grownBy.refl _ _,rfl⟩
  case round=>
   obtain⟨k,hk,rfl,rfl,ac,bn,ch⟩:=hrel;by_cases cs:k<m+1
   ·have bs:=ac.cell (i:=k) cs;rw[show mix k (word (2*R+bit)) (word R) k=word R k from by simp[mix]]at bs;have ep:=ac.frozen k;have ad:wr.cell? ⟨w.heap.size+1+1,0,none⟩=some (.slice (some ⟨w.heap.size+4,0,none⟩) (m+1) (m+1)):=bn.cell bv (fun e=>by have:=Option.some.inj e;simp at this);have n1:¬w.heap.size+4=w.heap.size+1+1:=by omega
    have n2:¬w.heap.size+1+1=w.heap.size+4:=by omega
    gi_wp2;refine mR (S:=(fun w'=>w'.cell? ⟨w.heap.size+1+1,0,none⟩=some (.slice (some ⟨w.heap.size+4,0,none⟩) (m+1) (m+1)))) (by kernel_rfl) (by kernel_rfl) ?_ (fun ab=>?_)
    ·exact ad
    refine rH 0 ?_;refine rH 1 ?_;refine rH 2 ?_;refine rH 3 ?_;refine rH 4 ?_;refine rH 7 ?_;refine rH 9 ?_;refine rH 10 ?_;refine rH 11 ?_;refine rR [5,12] ?_;refine rC 5 (fun K hK=>?_) ?_
    ·go_simp;refine hK.out _ _ ?_ (fun ab=>?_)
     ·(try dsimp only);first|exact ad|go_keep
     clear hK K;(try simp only[PT]);refine rH 6 ?_;refine rH 8 ?_;refine rR [12] ?_;refine rC 12 (fun K hK=>?_) ?_
     ·go_simp;refine hK.out _ _ ?_ (fun ab=>?_)
      ·(try dsimp only);first|exact ad|go_keep
      clear hK K;(try simp only[PT]);refine rH 13 ?_;refine rH 14 ?_;refine rR [15] ?_;refine rC 15 (fun K hK=>?_) ?_
      ·go_simp;refine hK.out _ _ ?_ (fun ab=>?_)
       ·(try dsimp only);first|exact ad|go_keep
       clear hK K;(try simp only[PT]);refine rH 16 ?_;refine wpAnyH_done (by kernel_rfl) ?_ _;refine cZ.normal ?_;gi_wp2;exact⟨wq cs bh ac bn ch,by simp[intOf];omega⟩
      exact AllReadyH.nil
     exact AllReadyH.nil
    refine rC 12 (fun K hK=>?_) ?_
    ·go_simp;refine hK.out _ _ ?_ (fun ab=>?_)
     ·(try dsimp only);first|exact ad|go_keep
     clear hK K;(try simp only[PT]);refine rH 13 ?_;refine rR [5] ?_;refine rC 5 (fun K hK=>?_) ?_
     ·go_simp;refine hK.out _ _ ?_ (fun ab=>?_)
      ·(try dsimp only);first|exact ad|go_keep
      clear hK K;(try simp only[PT]);refine rH 6 ?_;refine rH 8 ?_;refine rH 14 ?_;refine rR [15] ?_;refine rC 15 (fun K hK=>?_) ?_
      ·go_simp;refine hK.out _ _ ?_ (fun ab=>?_)
       ·(try dsimp only);first|exact ad|go_keep
       clear hK K;(try simp only[PT]);refine rH 16 ?_;refine wpAnyH_done (by kernel_rfl) ?_ _;refine cZ.normal ?_;gi_wp2;exact⟨wq cs bh ac bn ch,by simp[intOf];omega⟩
      exact AllReadyH.nil
     exact AllReadyH.nil
    exact AllReadyH.nil
   ·obtain rfl:k=m+1:=by omega
    have ei:Row wr (w.heap.size+4) (m+1) (word (2*R+bit)):=ac.congr (fun j hj=>by simp only[mix];rw[if_pos hj]);obtain⟨R1,cn⟩:=nm ((2*R+bit)%18446744073709551616^(m+1));have bx:R1<18446744073709551616^(m+1):=by rw[<-cn];exact Ni _ (ft _)
    have HR:=MY (show Row wr (w.heap.size+4) (m+1) (word R1)from ei.congr (fun j hj=>by rw[<-cn,DI _ _ _ hj]));have HO:=MY (bR.of_grown bn ch);have cw:=MY bx;have dn:=MY cn;have dr:=MY e;have ci:=MY (ar.rq.of_block (bn.block _ (by have:=ar.rr.lt;omega) (fun e=>by have:=Option.some.inj e;omega)));have HN:=MY (ar.next HO.out ci.out HR.out);have ao:=HN.cr;have an:=HN.cb;have dd:wlen R1<=m+1:=mL cw.out;have bu:(U<=R1/\0<=cmpN R1 U)\/(R1<U/\cmpN R1 U<0):=by
     unfold cmpN;by_cases h1:R1<U
     ·right;simp[h1]
     ·left;refine⟨by omega,?_⟩;rw[if_neg h1];split <;> omega
    have dk:=MY (fun W' (em:W'=wr.drew)=>jX (w.heap.size+4) b' (wlen R1) m (m+1) c' R1 U W' (mJ R1) HU.out (by omega) (by omega) (by rw[em];exact(HR.less dd).wds) (by rw[em];exact ec.out wr.drew HN.bel.drew));have bp:=MY (vI (w.heap.size+4) (m+1) (m+1) R1 wr.drew cw.out (by omega) (No _) HR.wds);have ba:=MY ar.out;have gl:w.heap.size+4<W.heap.size:=ar.rr.lt;generalize cmpN R1 U=cm1 at *;clear ac bn ch ei cn bx e bv ar hk cs;rcases bu with⟨bw,cP⟩|⟨fz,cP⟩
    ·have df:decide (0<=cm1)=true:=by simp;omega
     gi_wp2;refine mR (S:=(fun w'=>w'.cell? ⟨w.heap.size+1+1,0,none⟩=some (.slice (some ⟨w.heap.size+4,0,none⟩) (m+1) (m+1))/\w'.cell? ⟨w.heap.size,0,none⟩=some (.slice b' m c'))) (by kernel_rfl) (by kernel_rfl) ?_ (fun ab=>?_)
     ·exact⟨ao,an⟩
     refine rH 0 ?_;refine rH 2 ?_;refine rR [1] ?_;refine rC 1 (fun K hK=>?_) ?_
     ·go_simp;refine bp.mono ?_;rintro e w5 ⟨rfl,rfl⟩;go_wp2_with fail;refine hK.out _ _ ?_ (fun ab=>?_)
      ·(try dsimp only);first|exact⟨ao,an⟩|go_keep
      clear hK K;(try simp only[PT]);refine rR [3] ?_;refine rC 3 (fun K hK=>?_) ?_
      ·go_simp;refine(dk.out _ rfl).mono ?_;rintro e w6 ⟨rfl,q6,rfl⟩;go_wp2_with fail;refine hK.out _ _ ?_ (fun ab=>?_)
       ·(try dsimp only);first|exact⟨ao,an⟩|go_keep
       clear hK K;(try simp only[PT]);refine rH 4 ?_;refine wpAnyH_done (by kernel_rfl) ?_ _;refine cZ.normal ?_;gi_wp2;refine⟨trivial,?_⟩;refine(CallsIn.inRound l (callsIn_wide.2 (oR (w.heap.size+4) b' (m+1) (m+1) m (m+1) c' R1 U (word R1) _ HU.1 cw.out bw (fun _ _=>rfl) (No _) (by omega) (by omega) (HR.drewN _) (ec.out _ ((HO.drewN _).below ba.bel))))).mono ?_;rintro e w7 ⟨rfl,eu,cR,ev⟩;have ds:=MY ((HO.drewN _).trans (bR.of_grown cR ev));have dv:=MY (show Row w7 (w.heap.size+4) (m+1) (word (R1-U))from eu.congr (fun j hj=>by simp only[mix];rw[if_pos hj]));have cl:=MY ((ci.drewN (1+q6)).of_block (cR.block _ ci.lt (fun e=>by have:=Option.some.inj e;omega)));have ez:=MY (ba.next ds.out cl.out dv.out);have bi:=ez.cq;have cN:=cl.cell (i:=i/64) (by omega);have fs:=cl.frozen (i/64);have x1:IntKind.i64.wrap ((i:Int)/64)=(i:Int)/64:=by rw[NC];omega
       have x2:((i:Int)/64).toNat=i/64:=by omega
       have x3:(0:Int)<=(i:Int)/64:=by omega
       have x4:(i:Int)/64<(n:Int):=by omega
       have x5:IntKind.i64.wrap ((i:Int)%64)=(i:Int)%64:=by rw[NC];omega
       have x6:((i:Int)%64).toNat=i%64:=by omega
       have x7:(0:Int)<=(i:Int)%64:=by omega
       have x8:(i:Int).tmod 64=((i%64:Nat):Int):=by rw[Int.tmod_eq_emod_of_nonneg (by omega)];omega
       have x9:min (i%64) 64=i%64:=by omega
       have n3:¬w.heap.size+3=w.heap.size+1:=by omega
       have n4:¬w.heap.size+1=w.heap.size+3:=by omega
       clear eu cR ev;gi_wp2;refine mR (S:=(fun w'=>w'.cell? ⟨w.heap.size+1,0,none⟩=some (.slice (some ⟨w.heap.size+3,0,none⟩) n n))) (by kernel_rfl) (by kernel_rfl) ?_ (fun ab=>?_)
       ·exact bi
       refine rH 0 ?_;refine rH 1 ?_;refine rH 2 ?_;refine rH 3 ?_;refine rH 5 ?_;refine rH 6 ?_;refine rH 7 ?_;refine rR [4] ?_;refine rC 4 (fun K hK=>?_) ?_
       ·go_simp;refine hK.out _ _ ?_ (fun ab=>?_)
        ·(try dsimp only);first|exact bi|go_keep
        clear hK K;(try simp only[PT]);refine rH 8 ?_;refine rH 9 ?_;refine rR [10] ?_;refine rC 10 (fun K hK=>?_) ?_
        ·go_simp;refine hK.out _ _ ?_ (fun ab=>?_)
         ·(try dsimp only);first|exact bi|go_keep
         clear hK K;(try simp only[PT]);refine wpAnyH_done (by kernel_rfl) ?_ _;refine cZ.normal ?_;gi_wp2;have cx:=MY ((ds.set (j:=i/64) (.int .u64 (bits .or .u64 (word Q (i/64):Int) (IntKind.u64.wrap (2^(i%64)))))).drew);refine⟨cx.keeps ba.rq ba.rr,cx.keep2 hb (by omega),R1-U,Q |||2^i,?_,ba.next cx.out (DK cl.out) (dv.of_block (NF _ _ _ _ (by simp)))⟩;rw[N9,List.foldl_append,<-dr.out];simp only[NP,List.map_nil,List.foldl_cons,List.foldl_nil,lh,dn.out];rw[if_pos bw]
        exact AllReadyH.nil
       exact AllReadyH.nil
      exact AllReadyH.nil
     exact AllReadyH.nil
    ·have df:decide (0<=cm1)=false:=by simp;omega
     gi_wp2;refine mR (S:=(fun w'=>w'.cell? ⟨w.heap.size+1+1,0,none⟩=some (.slice (some ⟨w.heap.size+4,0,none⟩) (m+1) (m+1))/\w'.cell? ⟨w.heap.size,0,none⟩=some (.slice b' m c'))) (by kernel_rfl) (by kernel_rfl) ?_ (fun ab=>?_)
     ·exact⟨ao,an⟩
     refine rH 0 ?_;refine rH 2 ?_;refine rR [1] ?_;refine rC 1 (fun K hK=>?_) ?_
     ·go_simp;refine bp.mono ?_;rintro e w5 ⟨rfl,rfl⟩;go_wp2_with fail;refine hK.out _ _ ?_ (fun ab=>?_)
      ·(try dsimp only);first|exact⟨ao,an⟩|go_keep
      clear hK K;(try simp only[PT]);refine rR [3] ?_;refine rC 3 (fun K hK=>?_) ?_
      ·go_simp;refine(dk.out _ rfl).mono ?_;rintro e w6 ⟨rfl,q6,rfl⟩;go_wp2_with fail;refine hK.out _ _ ?_ (fun ab=>?_)
       ·(try dsimp only);first|exact⟨ao,an⟩|go_keep
       clear hK K;(try simp only[PT]);refine rH 4 ?_;refine wpAnyH_done (by kernel_rfl) ?_ _;refine cZ.normal ?_;gi_wp2;refine⟨(HO.drewN _).keeps ba.rq ba.rr,(HO.drewN _).keep2 hb (by omega),R1,Q,?_,ba.next (HO.drewN _) (ci.drewN _) (HR.drewN _)⟩;rw[N9,List.foldl_append,<-dr.out];simp only[NP,List.map_nil,List.foldl_cons,List.foldl_nil,lh,dn.out];rw[if_neg (by omega)]
      exact AllReadyH.nil
     exact AllReadyH.nil
 case done=>
  rintro D xs W hD rfl ⟨R,Q,e,hd⟩ hK;rw[DC,Dw el (by have:=HU.1;rw[M7];omega) ag]at e;obtain⟨rfl,rfl⟩:R=V%U/\Q=V/U:=by simpa using e
  have eo:=hd.cq;have bv:=hd.cr;have fn:=hd.fq;have fo:=hd.fr;have ar:=MY hd;clear e hd;go_wp2;have n1:¬w.heap.size+1=w.heap.size+1+1:=by omega
  have n2:¬w.heap.size+1+1=w.heap.size+1:=by omega
  have ew:∀W':World,W'.cell? ⟨w.heap.size+1,0,none⟩=some (.slice (some ⟨w.heap.size+3,0,none⟩) n n)->(W'.setCell ⟨w.heap.size+1,0,none⟩ (.slice (some ⟨w.heap.size+3,0,none⟩) n n)).cell? ⟨w.heap.size+1,0,none⟩=some (.slice (some ⟨w.heap.size+3,0,none⟩) n n):=fun W' e=>World.cell?_setCell_same' _ _ _ (by rw[e];rfl);have ex:∀W':World,W'.cell? ⟨w.heap.size+1+1,0,none⟩=some (.slice (some ⟨w.heap.size+4,0,none⟩) (m+1) (m+1))->(W'.setCell ⟨w.heap.size+1+1,0,none⟩ (.slice (some ⟨w.heap.size+4,0,none⟩) (m+1) (m+1))).cell? ⟨w.heap.size+1+1,0,none⟩=some (.slice (some ⟨w.heap.size+4,0,none⟩) (m+1) (m+1)):=fun W' e=>World.cell?_setCell_same' _ _ _ (by rw[e];rfl);go_region_held3 (fun w'=>w'.cell? ⟨w.heap.size+1,0,none⟩=some (.slice (some ⟨w.heap.size+3,0,none⟩) n n)/\w'.cell? ⟨w.heap.size+1+1,0,none⟩=some (.slice (some ⟨w.heap.size+4,0,none⟩) (m+1) (m+1))/\w'.frozen? ⟨w.heap.size+1,0,none⟩=false/\w'.frozen? ⟨w.heap.size+1+1,0,none⟩=false) (first|exact⟨eo,bv,fn,fo⟩|go_keep) (fail);all_goals go_wp2
  obtain⟨Wf,bc⟩:=nm (((W.setCell ⟨w.heap.size+1,0,none⟩ (.slice (some ⟨w.heap.size+3,0,none⟩) n n)).setCell ⟨w.heap.size+1+1,0,none⟩ (.slice (some ⟨w.heap.size+4,0,none⟩) (m+1) (m+1))).drew);have cC:Wf.heap[D]? = some (.deferred (some [])):=by rw[<-bc];exact(((Oa _ _ _).trans (Oa _ _ _)).trans (KeepsOthers.drew _)).same D _ hK rfl
  have eC:Wf.cell? ⟨w.heap.size+1,0,none⟩=some (.slice (some ⟨w.heap.size+3,0,none⟩) n n):=by
   rw[<-bc,cell_drew_own,NL (w:=W.setCell ⟨w.heap.size+1,0,none⟩ (.slice (some ⟨w.heap.size+3,0,none⟩) n n)) (NF _ _ _ _ (by simp))];exact ew _ eo
  have eP:Wf.cell? ⟨w.heap.size+1+1,0,none⟩=some (.slice (some ⟨w.heap.size+4,0,none⟩) (m+1) (m+1)):=by
   rw[<-bc];exact ex _ ((NL (w:=W) (NF _ _ _ _ (by simp))).trans bv)
  have eS:Row Wf (w.heap.size+3) n (word (V/U)):=by
   rw[<-bc];exact(ar.rq.of_block (NF _ _ _ _ (by simp))).of_block (NF _ _ _ _ (by simp))
  have eg:Row Wf (w.heap.size+4) (m+1) (word (V%U)):=by
   rw[<-bc];exact(ar.rr.of_block (NF _ _ _ _ (by simp))).of_block (NF _ _ _ _ (by simp))
  have eU:eB w Wf:=by
   rw[<-bc];exact((ar.bel.setCell (p:=⟨w.heap.size+1,0,none⟩) (by simp) _).setCell (p:=⟨w.heap.size+1+1,0,none⟩) (by simp;omega) _).drew
  rw[bc];clear bc ew ex;refine⟨by simp,.inl ⟨_,_,rfl,run_takeDeferred cC,?_⟩⟩;have eV:w.heap.size+4<D:=by omega
  have cp:∀p v,Wf.cell? p=some v->(Wf.putObj D (.deferred none)).cell? p=some v:=fun p v hc=>cell_kept hc (grownBy_putObj' _ D (.deferred none)) (fun r e=>by cases e;exact⟨_,cC,rfl⟩);have eD:=cp _ _ eC;have eR:=cp _ _ eP;have ch:(Wf.putObj D (.deferred none)).heap.size=Wf.heap.size:=by simp[World.putObj]
  have hl:=eg.lt;refine⟨.tuple #[.slice (some ⟨w.heap.size+3,0,none⟩) n n,.slice (some ⟨w.heap.size+4,0,none⟩) (m+1) (m+1)],by simp[results,results114,go_sem,eD,eR],?_⟩;refine⟨_,_,rfl,.inr ⟨_,_,_,rfl,Nt (NH _ _) HV.1,by omega,No _,by omega,fun j hj=>cp _ _ (eS.cell hj)⟩,.inr ⟨_,_,_,rfl,Nf (Nat.lt_trans (Ni V el) HU.1) (Ng (by omega) (by omega)),by omega,No _,by omega,fun j hj=>cp _ _ (eg.cell hj)⟩,?_⟩;exact eU.trans (belowK_b (w:=w) (No _) Wf D _ _ (by omega) cC rfl rfl)
 case stop=>
  rintro D c pre W _ _ h _;exact h.elim
end
section
open Go.RowKit Bf
def DN(b b' n m c c' V U:Nat)(w:World)(hV:bz n V)(hU:bz m U)(hn:n<=4096)(hm:m<=4096)(hc:n<=c)(hb:b<w.heap.size)(hb':b'<w.heap.size)(h:Wds w b n V)(h':Wds w b' m U)(ab:U≠0) :Calls prog 114 #[.slice b n c,.slice b' m c'] w (oW w (V/U) (V%U)):=by
 by_cases ac:V<U
 ·exact Dj b b' n m c c' V U w hV hU (by omega) (by omega) hc hb hb' h h' ac
 ·by_cases h1:m=1
  ·subst h1;exact Dk b b' n c c' V U w hV hU (by omega) hb hb' h h' (by omega)
  ·have h0:m≠0:=fun e=>ab ((iJ hU).1 e);exact DM b b' n m c c' V U w hV hU hn hm (by omega) hb hb' h h' (by omega)
def wt{W}{v}{V:Nat}(h:lg W v V):Calls prog 47 #[v] W (Ret W (.string (bs V))):=by
 rcases h with⟨rfl,rfl⟩|⟨g,k,cap,rfl,ac,hk,ab,hg,hw⟩
 ·exact Ct W
 ·exact mM g k cap V W ac (by omega) hg hw
def lg.below{W W'}{v}{V:Nat}(h:lg W v V)(hb:eB W W'):lg W' v V:=by
 rcases h with h|⟨g,k,cap,rfl,ac,hk,ab,hg,hw⟩
 ·exact .inl h
 ·exact .inr ⟨g,k,cap,rfl,ac,hk,ab,Nf hg hb.size,hw.below hb hg⟩
def rV(a b)(w)(ha:cF a)(hb:cF b)(h0:bv b≠0) :Calls prog 58 #[.string a,.string b] w (Ret w (.tuple #[.string (bs (bv a/bv b)),.string (bs (bv a%bv b)),.int .i64 0])):=by
 have ab:chk (fun j=>if j=0 then a else b) 2=0:=jp (fun j _=>by split <;> assumption);have HC:=MY (jZ w.heap.size 2 2 (fun j=>if j=0 then a else b) (w.alloc (.cells #[.string a,.string b] 9)) (by omega) (lf w a b 9));rw[ab]at HC;have la:=ha.2;have lb:=hb.2;have bi:=MY (fA ha.1);have bk:=MY (fA hb.1);have aA:=MY ((NB w.heap.size w).alloc (No _) (.cells #[.string a,.string b] 9));have bn:0<b.size:=by
  rcases Nc b.size with e|e
  ·exfalso;have:=oJ b.data.toList;rw[kZ,e]at this;exact h0 (by unfold bv;omega)
  ·exact e
 have te:=rT bn;clear ab ha hb;go_enter func58,ntmps58;go_wp2_with fail;refine HC.mono ?_;rintro e w1 ⟨rfl,rfl⟩;go_wp2_with fail;refine(fy a _ (by omega)).mono ?_;rintro e w1 ⟨rfl,ad,ar,ax⟩;rw[NU]at ad ax⊢;have bg:=MY ad;have ba:=MY (aA.trans (ar.mono (by simp)));have h1:w.heap.size+1<w1.heap.size:=ad.lt;clear ad ar ax;go_wp2_with fail;refine(fy b _ (by omega)).mono ?_;rintro e w2 ⟨rfl,ao,al,bm⟩;have ag:=MY (bg.below al h1);have bh:=MY ao;have bb:=MY (ba.trans (al.mono (by omega)));have h2:w1.heap.size<w2.heap.size:=ao.lt;clear ao al bm;go_wp2_with fail;refine(DN (w.heap.size+1) w1.heap.size ((a.size+7)/8) ((b.size+7)/8) ((a.size+7)/8) ((b.size+7)/8) (bv a) (bv b) w2 bi.out bk.out (by omega) (by omega) (No _) (by omega) (by omega) ag.wds bh.wds h0).mono ?_;rintro e w3 ⟨v,u,rfl,hv,hu,an⟩;have bc:=MY (bb.trans (an.mono (by omega)));have bo:=an.size;have HX:=MY (wt hv);have HU:=MY hu;clear an hv hu;go_wp2_with fail;refine HX.mono ?_;rintro e w4 ⟨rfl,ac⟩;have bd:=MY (bc.trans (ac.mono (by omega)));have bp:=ac.size;have bl:=MY (wt (HU.below ac));clear ac;go_wp2_with fail;refine bl.mono ?_;rintro e w5 ⟨rfl,av⟩;have be:=MY (bd.trans (av.mono (by omega)));clear av;go_wp2;go_ret3;exact⟨rfl,be.out⟩
end
namespace Bf
def LIM:Nat:=256^256
def DO:0<LIM:=Nat.pow_pos (by omega)
structure Rt where
 neg:Bool
 n:Nat
 d:Nat
def Rt.ok(a:Rt):Prop:=a.n<LIM/\a.d<LIM/\0<a.d/\Nat.gcd a.n a.d=1/\(a.neg=true->a.n≠0)
instance(a:Rt):Decidable a.ok:=by unfold Rt.ok;exact inferInstance
def lowR(neg:Bool)(n d:Nat):Rt:=⟨neg&&n != 0,n/Nat.gcd n d,d/Nat.gcd n d⟩
def dq{neg:Bool}{n d:Nat}(hn:n<LIM:=by omega)(hd:d<LIM:=by omega)(h0:0<d:=by omega):(lowR neg n d).ok:=by
 have hg:0<Nat.gcd n d:=Nat.gcd_pos_of_pos_right n h0;refine⟨Nt (NH _ _) hn,Nt (NH _ _) hd,Nat.div_pos (Nat.le_of_dvd h0 (Nat.gcd_dvd_right n d)) hg,by show Nat.gcd (n/Nat.gcd n d) (d/Nat.gcd n d)=1;rw[Nat.gcd_div (Nat.gcd_dvd_left n d) (Nat.gcd_dvd_right n d),Nat.div_self hg],?_⟩;intro h;simp only[lowR,Ob,bne_iff_ne,ne_eq]at h⊢;have ab:0<n:=by omega
 have:=Nat.div_pos (Nat.le_of_dvd ab (Nat.gcd_dvd_left n d)) hg;omega
def wu{n d:Nat}(h0:0<d):n/Nat.gcd n d=0<->n=0:=by
 have hg:0<Nat.gcd n d:=Nat.gcd_pos_of_pos_right n h0;constructor
 ·intro h;rcases Nc n with e|e
  ·exact e
  ·have:=Nat.div_pos (Nat.le_of_dvd e (Nat.gcd_dvd_left n d)) hg;omega
 ·rintro rfl;simp
def mulR(a b:Rt):Option Rt:=if a.n*b.n<LIM/\a.d*b.d<LIM then some (lowR (a.neg != b.neg) (a.n*b.n) (a.d*b.d))else none
def iM(a:Rt):Rt:=⟨a.neg,a.d,a.n⟩
def divR(a b:Rt):Option Rt:=mulR a (iM b)
def fB{a b c}(h:mulR a b=some c)(ha:0<a.d)(hb:0<b.d):c.ok:=by
 unfold mulR at h;split at h
 ·rename_i hc
  cases h;exact dq hc.1 hc.2 (Nat.mul_pos ha hb)
 ·cases h
def mT{a b c}(h:mulR a b=some c)(ha:a.neg=false)(hb:b.neg=false):c.neg=false:=by
 unfold mulR at h;split at h
 ·cases h;simp[lowR,ha,hb]
 ·cases h
def ceilR(a:Rt):Option Nat:=
 if a.n/a.d<=4611686018427387904 then
  if a.n%a.d=0 then some (a.n/a.d)else if a.n/a.d+1<=4611686018427387904 then some (a.n/a.d+1)else none
 else none
end Bf
section
open Go.RowKit Bf
def gX{W w1}(hb:eB W w1):(∀b o,b<W.heap.size->w1.cell? ⟨b,o,none⟩=W.cell? ⟨b,o,none⟩)/\(∀b o,b<W.heap.size->w1.frozen? ⟨b,o,none⟩=W.frozen? ⟨b,o,none⟩):=
 ⟨fun b o h=>hb.cell (p:=⟨b,o,none⟩) h,fun b o h=>hb.frozen (p:=⟨b,o,none⟩) h⟩
def bA(r:Rt):Value:= .agg #[.bool r.neg,.string (bs r.n),.string (bs r.d)]
def da{n:Nat}(h:n<LIM):cF (bs n):=Da.2 h
def oZ{s}(h:cF s):bv s<LIM:=Db h.2
def fX(k:Int):List PanicEntry:=[{v:= .iface 183 (.agg #[.int .i64 k]),recovered:=false}]
def o8(s)(w):Calls prog 102 #[.string s,.int .i64 0] w fun e w'=>e=.returned (.string s)/\w=w':=by
 go_enter func102,ntmps102;go_wp2;go_ret;exact⟨rfl,rfl⟩
def DP(s)(k:Int)(hk:k≠0)(w):Calls prog 102 #[.string s,.int .i64 k] w fun e w'=>e=.panicked (fX k)/\w=w':=by
 have t:(k != 0)=true:=by rw[bne_iff_ne];exact hk
 clear hk;go_enter func102,ntmps102;go_wp2;exact⟨rfl,rfl,rfl⟩
def wy(k:Int)(w):Calls prog 52 #[.iface 183 (.agg #[.int .i64 k])] w (Ret w (.int .i64 k)):=by
 have ab:∀W:World,(Instr.typeAssert (.iface 183 (.agg #[.int .i64 k])) 20 183 true).run prog W=.ok (.tuple #[.agg #[.int .i64 k],.bool true]) W:=fun W=>by kernel_rfl
 go_enter func52,ntmps52;go_wp2;go_ret;exact⟨rfl,(NB _ _).alloc (No _) _⟩
def DQ(neg:Bool)(n d)(w):Calls prog 113 #[.agg #[.bool neg,.string n,.string d]] w (Ret w (.agg #[.bool neg,.string d,.string n])):=by
 go_enter func113,ntmps113;go_wp2;exact bodyPost_ret (v:= .agg #[.bool neg,.string d,.string n]) (by simp[results,results113,go_sem]) rfl ⟨rfl,((NB _ _).alloc (No _) _).alloc (by simp) _⟩
def iN(n:Nat):(bs n).toList.isEmpty=(n==0):=by
 rw[Lib.toList_data];show(benc n).isEmpty=_;by_cases h:n=0
 ·subst h;rfl
 ·have:=mt rB.1 h;rw[List.isEmpty_eq_false_iff.2 this];simp[h]
def wz(neg:Bool)(n d:Nat)(w)(hn:n<LIM)(hd:d<LIM)(h0:0<d)(hT:Tab w) :Calls prog 54 #[.agg #[.bool neg,.string (bs n),.string (bs d)]] w (Ret w (bA (lowR neg n d))):=by
 have hg:0<Nat.gcd n d:=Nat.gcd_pos_of_pos_right n h0;have ag:Nat.gcd n d<LIM:=Nt (Nat.gcd_le_right n h0) hd;have HG:=MY (fun W (hW:Tab W)=>wi (bs n) (bs d) W (da hn) (da hd) hW);have al:=MY (fun W=>rV (bs n) (bs (Nat.gcd n d)) W (da hn) (da ag) (by rw[aU];omega));have an:=MY (fun W=>rV (bs d) (bs (Nat.gcd n d)) W (da hd) (da ag) (by rw[aU];omega));simp only[aU]at HG al an;have HZ:=MY (wu (n:=n) h0);have HT:=MY hT;have HV:Hid (bA (lowR neg n d)=.agg #[.bool (neg&&n != 0),.string (bs (n/Nat.gcd n d)),.string (bs (d/Nat.gcd n d))]):=rfl;have bc:(bs (n/Nat.gcd n d)).toList.isEmpty=(n==0):=by
  rw[iN,Bool.eq_iff_iff];simp[HZ.out]
 clear hT hn hd ag;generalize bs (n/Nat.gcd n d)=sn at *;generalize bs (d/Nat.gcd n d)=sd at *;generalize bs (Nat.gcd n d)=sg at *;generalize bs n=xn at *;generalize bs d=xd at *;rw[HV.out,show(n != 0) = !(n==0)from rfl];clear HV HZ;generalize (n==0)=z at *
 cases z <;> cases neg;all_goals
  simp only[Bool.not_true,Bool.not_false,Bool.and_true,Bool.and_false]
  go_enter func54,ntmps54
  go_wp2_with fail
  refine(HG.out _ (HT.below (((NB _ _).alloc (No _) _).alloc (by simp) _))).mono ?_
  rintro e w1 ⟨rfl,ab⟩
  obtain⟨ax,bd⟩:=gX ab
  have ba:w.heap.size+1<w1.heap.size:=by have:=ab.size;simp at this;omega
  have bh:w.heap.size<w1.heap.size:=by omega
  have ao:=MY ((((NB w.heap.size w).alloc (No _) _).alloc (by simp) _).trans (ab.mono (by simp;omega)))
  clear ab
  go_wp2_with fail
  refine(o8 _ _).mono ?_
  rintro e w2 ⟨rfl,rfl⟩
  go_wp2_with fail
  refine(al.out _).mono ?_
  rintro e w2 ⟨rfl,ac⟩
  obtain⟨hc2,be⟩:=gX ac
  have bb:w.heap.size+1<w2.heap.size:=by have:=ac.size;omega
  have bi:w.heap.size<w2.heap.size:=by omega
  have ar:=MY (ao.trans (ac.mono (by omega)))
  clear ac
  go_wp2_with fail
  refine(o8 _ _).mono ?_
  rintro e w3 ⟨rfl,rfl⟩
  go_wp2_with fail
  refine(an.out _).mono ?_
  rintro e w3 ⟨rfl,ad⟩
  obtain⟨aA,bg⟩:=gX ad
  have bl:w.heap.size+1<w3.heap.size:=by have:=ad.size;omega
  have bk:w.heap.size<w3.heap.size:=by omega
  have av:=MY (ar.trans (ad.mono (by omega)))
  clear ad
  go_wp2_with fail
  refine(o8 _ _).mono ?_
  rintro e w4 ⟨rfl,rfl⟩
  go_wp2
  refine bodyPost_ret (v:= .agg #[_,.string sn,.string sd]) (by simp[results,results54,go_sem,ax,hc2,aA,ba,bb]) rfl ⟨rfl,?_⟩
  exact((av.setCell (by simp) _).setCell (by simp) _).setCell (by simp) _
def o9(s):chk (fun _=>s) 1=0<->cF s:=by
 constructor
 ·intro h;by_cases h1:Nat' s
  ·refine⟨h1,?_⟩;rcases Nh 256 s.size with hl|hl
   ·rw[wf (j:=0) (fun _ _=>h1) (by omega) hl]at h;cases h
   ·exact hl
  ·rw[we (j:=0) (by omega) h1]at h;cases h
 ·exact fun h=>jp fun _ _=>h
def bN(neg:Bool)(n d:ByteArray):Prop:=cF n/\cF d/\bv d≠0/\Nat.gcd (bv n) (bv d)=1/\(neg=true->bv n≠0)
def bN.of{r:Rt}(h:r.ok):bN r.neg (bs r.n) (bs r.d):=by
 refine⟨da h.1,da h.2.1,?_,?_,?_⟩
 ·rw[aU];have:=h.2.2.1;omega
 ·rw[aU,aU];exact h.2.2.2.1
 ·rw[aU];exact h.2.2.2.2
def bN.to{neg:Bool}{n d}(h:bN neg n d):∃r:Rt,r.ok/\r.neg=neg/\bs r.n=n/\bs r.d=d:=
 ⟨⟨neg,bv n,bv d⟩,⟨oZ h.1,oZ h.2.1,by have:=h.2.2.1;show 0<bv d;omega,h.2.2.2.1,h.2.2.2.2⟩,rfl,mQ h.1.1,mQ h.2.1.1⟩
open Classical in
noncomputable def rchk(neg:Bool)(n d:ByteArray):Int:=if bN neg n d then 0 else 70
def gY{neg:Bool}{n d}(h:bN neg n d):rchk neg n d=0:=if_pos h
def iO{neg:Bool}{n d}(h:¬bN neg n d):rchk neg n d=70:=if_neg h
def rW{s}(h:Nat' s):s.toList.isEmpty=decide (bv s=0):=by
 rw[<-mQ h,iN,aU,Bool.eq_iff_iff];simp
def rX:bs 1=⟨#[1]⟩:=rfl
def iP(neg:Bool)(n d)(w)(hT:Tab w) :Calls prog 8 #[.agg #[.bool neg,.string n,.string d]] w (Ret w (.int .i64 (rchk neg n d))):=by
 have al:=MY (fun W=>wh n W);have ar:=MY (fun W=>wh d W);have HT:=MY hT;by_cases h1:cF n
 ·rw[(o9 n).2 h1]at al;by_cases h2:cF d
  ·rw[(o9 d).2 h2]at ar;by_cases h3:bv d=0
   ·have hv:rchk neg n d=70:=iO fun h=>h.2.2.1 h3;rw[hv];have te:d.toList.isEmpty=true:=by rw[rW h2.1];simp[h3]
    go_enter func8,ntmps8;go_wp2_with fail;refine(al.out _).mono ?_;rintro e w1 ⟨rfl,ab⟩;obtain⟨bb,bc⟩:=gX ab;have be:w.heap.size<w1.heap.size:=by have:=ab.size;simp at this;omega
    have ad:=MY (((NB w.heap.size w).alloc (No _) _).trans (ab.mono (by simp)));go_wp2_with fail;refine(ar.out _).mono ?_;rintro e w2 ⟨rfl,ac⟩;obtain⟨hc2,bd⟩:=gX ac;have bg:w.heap.size<w2.heap.size:=by have:=ac.size;omega
    have ag:=MY (ad.trans (ac.mono (by omega)));go_wp2;go_ret;exact⟨rfl,ag.out⟩
   ·have te:d.toList.isEmpty=false:=by rw[rW h2.1];simp[h3]
    have HG:=MY (fun W (hW:Tab W)=>wi n d W h1 h2 hW);have ba:(Nat.gcd (bv n) (bv d)≠1/\rchk neg n d=70)\/(Nat.gcd (bv n) (bv d)=1/\((neg=true/\bv n=0/\rchk neg n d=70)\/(neg=true/\bv n≠0/\rchk neg n d=0)\/(neg=false/\rchk neg n d=0))):=by
     by_cases h4:Nat.gcd (bv n) (bv d)=1
     ·refine .inr ⟨h4,?_⟩
      cases neg with
      |false=>exact .inr (.inr ⟨rfl,gY ⟨h1,h2,h3,h4,fun e=>by cases e⟩⟩)
      |true=>
       by_cases h5:bv n=0
       ·exact .inl ⟨rfl,h5,iO fun h=>h.2.2.2.2 rfl h5⟩
       ·exact .inr (.inl ⟨rfl,h5,gY ⟨h1,h2,h3,h4,fun _=>h5⟩⟩)
     ·exact .inl ⟨h4,iO fun h=>h4 h.2.2.2.1⟩
    have ax:=rW h1.1;have an:=MY ba;generalize rchk neg n d=rv at *;generalize bv n=vn at *;generalize bv d=vd at *;generalize Nat.gcd vn vd=g at *;go_enter func8,ntmps8;go_wp2_with fail;refine(al.out _).mono ?_;rintro e w1 ⟨rfl,ab⟩;obtain⟨bb,bc⟩:=gX ab;have be:w.heap.size<w1.heap.size:=by have:=ab.size;simp at this;omega
    have ad:=MY (((NB w.heap.size w).alloc (No _) _).trans (ab.mono (by simp)));go_wp2_with fail;refine(ar.out _).mono ?_;rintro e w2 ⟨rfl,ac⟩;obtain⟨hc2,bd⟩:=gX ac;have bg:w.heap.size<w2.heap.size:=by have:=ac.size;omega
    have ag:=MY (ad.trans (ac.mono (by omega)));go_wp2_with fail;refine(HG.out _ (HT.below ag.out)).mono ?_;rintro e w3 ⟨rfl,av⟩;obtain⟨bh,bi⟩:=gX av;have bk:w.heap.size<w3.heap.size:=by have:=av.size;omega
    have ao:=MY (ag.trans (av.mono (by omega)));rcases an.out with⟨hg,rfl⟩|⟨rfl,⟨rfl,aA,rfl⟩|⟨rfl,aA,rfl⟩|⟨rfl,rfl⟩⟩
    ·have tg:¬(bs g).toList=[1]:=fun e=>hg (BN (by rw[Lib.toList_data]at e;exact e));generalize bs g=sg at *;go_wp2;go_ret;exact⟨rfl,ao.out⟩
    ·simp only[aA,decide_true]at ax;rw[rX];go_wp2;go_ret;exact⟨rfl,ao.out⟩
    ·simp only[aA,decide_false]at ax;rw[rX];go_wp2;go_ret;exact⟨rfl,ao.out⟩
    ·clear an ax;rw[rX];go_wp2;go_ret;exact⟨rfl,ao.out⟩
  ·have hv:rchk neg n d=70:=iO fun h=>h2 h.2.1;rw[hv];have t2:(chk (fun _=>d) 1 != 0)=true:=by rw[bne_iff_ne];exact fun e=>h2 ((o9 d).1 e)
   generalize chk (fun _=>d) 1=cd at *;go_enter func8,ntmps8;go_wp2_with fail;refine(al.out _).mono ?_;rintro e w1 ⟨rfl,ab⟩;obtain⟨bb,bc⟩:=gX ab;have be:w.heap.size<w1.heap.size:=by have:=ab.size;simp at this;omega
   have ad:=MY (((NB w.heap.size w).alloc (No _) _).trans (ab.mono (by simp)));go_wp2_with fail;refine(ar.out _).mono ?_;rintro e w2 ⟨rfl,ac⟩;obtain⟨hc2,bd⟩:=gX ac;have ag:=MY (ad.trans (ac.mono (by omega)));go_wp2;go_ret;exact⟨rfl,ag.out⟩
 ·have hv:rchk neg n d=70:=iO fun h=>h1 h.1;rw[hv];have t1:(chk (fun _=>n) 1 != 0)=true:=by rw[bne_iff_ne];exact fun e=>h1 ((o9 n).1 e)
  generalize chk (fun _=>n) 1=cn at *;go_enter func8,ntmps8;go_wp2_with fail;refine(al.out _).mono ?_;rintro e w1 ⟨rfl,ab⟩;have ad:=MY (((NB w.heap.size w).alloc (No _) _).trans (ab.mono (by simp)));go_wp2;go_ret;exact⟨rfl,ad.out⟩
structure In where
 op:Int
 A:Int
 B:Int
 neg:Bool
 n:ByteArray
 d:ByteArray
def In.rt(x:In):Rt:=⟨x.neg,bv x.n,bv x.d⟩
def btw(n l g:Int):Bool:=decide (l<=n)&&decide (n<=g)
noncomputable def alz(neg:Bool)(n d:ByteArray):Bool:=(rchk neg n d==0)&& !neg
def rY{neg:Bool}{n d}:alz neg n d=true<->bN neg n d/\neg=false:=by
 unfold alz;by_cases h:bN neg n d
 ·rw[gY h];simp[h]
 ·rw[iO h];simp[h]
noncomputable def bD(x:In)(after:Int):Bool:=
 if x.op=1 then(btw x.A (-2) 5&&btw x.B 0 1024)&&decide (2<=after)
 else if x.op=2 then decide (0<=x.A)&&decide (x.A<after)
 else if x.op=3 then((alz x.neg x.n x.d&& !x.n.toList.isEmpty)&&btw x.A 0 63)&&btw x.B 0 15
 else if x.op=4 then(alz x.neg x.n x.d&&btw x.A 0 31)&&btw x.B 0 1
 else if x.op=5 then(alz x.neg x.n x.d&&btw x.A 0 31)&&decide (x.B=0)
 else if x.op=6 then btw x.A 0 15&&btw x.B 0 15
 else if x.op=7 then true else if x.op=8 then true else false
def eN(l:List In):Prop:=0<l.length/\l.length<=4096/\(∀(i:Nat)(x:In),l[i]? = some x->bD x ((l.length:Int)-1-(i:Int))=true)/\(∀x,l[l.length-1]? = some x->x.op=7\/x.op=8)
open Classical in
noncomputable def iQ(l:List In):Int:=if eN l then 0 else 171
def rZ{l:List In}(h:eN l):iQ l=0:=if_pos h
def mU{l:List In}(h:¬eN l):iQ l=171:=if_neg h
structure d9 where
 item:Int
 amt:Rt
 out:Bool
 back:Bool
structure Mst where
 bat:Rt
 next:Nat
 fuel:Nat
 lead:Int
 uses:List d9
 works:List (Int×Int)
inductive Out where
 |go (s:Mst)
 |stop (e:Int) (s:Mst)
def cg(ch:List Int)(day:Int)(x:In):Bool:=
 if x.A= -1 then decide (x.B<=day)else if x.A= -2 then decide (day<x.B)else match ch[x.A.toNat]? with|some c=>c==x.B|none=>false
def stepI(ch:List Int)(day:Int)(amt:Rt)(x:In)(s:Mst):Out:=
 if x.op=1 then .go {s with next:=if cg ch day x then s.next+1 else s.next}
 else if x.op=2 then .go {s with next:=s.next+x.A.toNat}
 else if x.op=3 then match divR amt x.rt with|none=> .stop 2 s|some q=> .go {s with bat:=q,lead:=x.B}
 else if x.op=4 then match mulR x.rt s.bat with|none=> .stop 2 s|some a=> .go {s with uses:=s.uses++[⟨x.A,a,false,x.B==1⟩]}
 else if x.op=5 then match mulR x.rt s.bat with|none=> .stop 2 s|some a=> .go {s with uses:=s.uses++[⟨x.A,a,true,false⟩]}
 else if x.op=6 then match ceilR s.bat with|none=> .stop 2 s|some k=>if 1099511627776<k then .stop 2 s else .go {s with works:=s.works++[(x.A,x.B*k)]}
 else if x.op=7 then .stop 0 s else .stop 160 s
def dt(code:List In)(ch:List Int)(day:Int)(amt:Rt):Nat->Mst->Int×Mst
 |0,s=>(170,s)
 |g+1,s=>if s.fuel=0 then(170,s)else match code[s.next]? with
  |none=>(170,s)
  |some x=>match stepI ch day amt x {s with fuel:=s.fuel-1,next:=s.next+1}with
   |.go s'=>dt code ch day amt g s'
   |.stop e s'=>(e,s')
def bL(fuel:Nat):Mst:={bat:=⟨false,0,1⟩,next:=0,fuel:=fuel,lead:=0,uses:=[],works:=[]}
def Blk(w:World)(b:Nat)(l:List Value)(t:TypeId):Prop:=w.heap[b]? = some (.cells l.toArray t (0,0))
def Blk.at{w}{b:Nat}{l}{t}(h:Blk w b l t)(i:Nat)(v)(hv:l[i]? = some v):w.cell? ⟨b,i,none⟩=some v/\w.frozen? ⟨b,i,none⟩=false:=by
 have h':w.heap[b]? = some (.cells l.toArray t (0,0)):=h;simp[World.cell?,World.frozen?,h',hv]
def li{w}{b:Nat}{x0 x1:Value}{l}{t}(h:Blk w b (x0::x1::l) t):w.cell? ⟨b,0,none⟩=some x0/\w.cell? ⟨b,1,none⟩=some x1:=⟨(h.at 0 _ rfl).1,(h.at 1 _ rfl).1⟩
def dc{w}{b:Nat}{x0 x1 x2:Value}{l}{t}(h:Blk w b (x0::x1::x2::l) t):w.cell? ⟨b,0,none⟩=some x0/\w.cell? ⟨b,1,none⟩=some x1/\w.cell? ⟨b,2,none⟩=some x2:=⟨(h.at 0 _ rfl).1,(h.at 1 _ rfl).1,(h.at 2 _ rfl).1⟩
def pa{w}{b:Nat}{x0 x1 x2 x3 x4 x5 x6 x7:Value}{l}{t}(h:Blk w b (x0::x1::x2::x3::x4::x5::x6::x7::l) t):w.cell? ⟨b,0,none⟩=some x0/\w.cell? ⟨b,1,none⟩=some x1/\w.cell? ⟨b,2,none⟩=some x2/\w.cell? ⟨b,3,none⟩=some x3/\w.cell? ⟨b,4,none⟩=some x4/\w.cell? ⟨b,5,none⟩=some x5/\w.cell? ⟨b,6,none⟩=some x6/\w.cell? ⟨b,7,none⟩=some x7:=⟨(h.at 0 _ rfl).1,(h.at 1 _ rfl).1,(h.at 2 _ rfl).1,(h.at 3 _ rfl).1,(h.at 4 _ rfl).1,(h.at 5 _ rfl).1,(h.at 6 _ rfl).1,(h.at 7 _ rfl).1⟩
def Blk.lt{w}{b:Nat}{l}{t}(h:Blk w b l t):b<w.heap.size:=(NX.1 h).1
def Blk.set{w}{b:Nat}{l}{t}(h:Blk w b l t)(i:Nat)(v):Blk (w.setCell ⟨b,i,none⟩ v) b (l.set i v) t:=by
 have h':w.heap[b]? = some (.cells l.toArray t (0,0)):=h;unfold Blk;simp[World.setCell,Array.getElem?_modify,h']
def Blk.other{w}{b c i:Nat}{l}{t}(h:Blk w b l t)(hc:b≠c)(v):Blk (w.setCell ⟨c,i,none⟩ v) b l t:=(NF _ _ _ _ hc).trans h
def Blk.alloc{w}{b:Nat}{l}{t}(h:Blk w b l t)(o:Obj):Blk (w.alloc o) b l t:=(NT _ _ _ h.lt).trans h
def Blk.drew{w}{b:Nat}{l}{t}(h:Blk w b l t):Blk w.drew b l t:=h
def Blk.below{w W}{b B:Nat}{l}{t}(h:Blk w b l t)(hb:Below B w W)(hB:b<B):Blk W b l t:=(hb.block b hB).trans h
def Blk.grown{w W}{b:Nat}{row:Option Nat}{l}{t}(h:Blk w b l t)(hg:w.grownBy W row)(hr:some b≠row):Blk W b l t:=(hg.block b h.lt hr).trans h
def Blk.new(w:World)(l:List Value)(t):Blk (w.alloc (.cells l.toArray t)) w.heap.size l t:=N8 w _
def cM(w:World)(b i:Nat)(v):w.grownBy (w.setCell ⟨b,i,none⟩ v) (some b):=⟨rfl,rfl,rfl,by simp[World.setCell],fun k _ hr=>NF _ _ _ _ (fun e=>hr (by rw[e]))⟩
def eh(w:World)(row:Option Nat):w.grownBy w.drew row:=⟨rfl,rfl,rfl,No _,fun _ _ _=>rfl⟩
def du{W W'}(h:eB W W')(row:Option Nat):W.grownBy W' row:=⟨h.os,h.tape,h.output,h.size,fun k hk _=>h.block k hk⟩
def DR{W:World}{b i j c:Nat}{v u}(h:W.cell? ⟨c,j,none⟩=some v)(ab:¬(c=b/\j=i)):(W.setCell ⟨b,i,none⟩ u).cell? ⟨c,j,none⟩=some v:=
 (NK W ⟨b,i,none⟩ ⟨c,j,none⟩ u (fun e=>ab (by cases e;exact⟨rfl,rfl⟩))).trans h
def DS{w w':World}{B n size:Nat}{e}{v}{xs}(h:w.ownsRow B e size v n xs)(hb:∀g,v.ownBlock=some g->w'.heap[g]? = w.heap[g]?):w'.ownsRow B e size v n xs:=by
 refine⟨h.1,?_⟩;rcases h.2 with h0|⟨g,cap,cur,rfl,h1,h2,h3⟩
 ·exact .inl h0
 ·exact .inr ⟨g,cap,cur,rfl,h1,(hb g rfl).trans h2,h3⟩
def DT{w:World}{B n size:Nat}{e}{v}{xs}(h:w.ownsRow B e size v n xs){g:Nat}(hg:v.ownBlock=some g):g<w.heap.size:=by
 rcases h.2 with⟨rfl,_⟩|⟨g',cap,cur,rfl,h1,h2,h3⟩
 ·cases hg
 ·have:g'=g:=Option.some.inj hg;subst this;exact(NX.1 h2).1
def DU{w:World}{B n size:Nat}{e}{v}{xs}(h:w.ownsRow B e size v n xs):∃A c,v=.slice A n c:=by
 rcases h.2 with⟨rfl,rfl⟩|⟨g,cap,cur,rfl,_⟩
 ·exact⟨_,_,rfl⟩
 ·exact⟨_,_,rfl⟩
def pd{W}{b:Nat}{l}{t}{size:Nat}(h:Blk W b l t)(hl:l.length=1*size:=by rfl):bj W (b+1) size (some ⟨b,0,none⟩) 1 l:=by
 refine⟨hl,fun _=>⟨_,rfl,by simp,fun j u hu=>?_⟩⟩;have e:(⟨b,0,none⟩:Addr).add j=⟨b,j,none⟩:=by unfold Addr.add;split <;> simp_all
 rw[e];exact(h.at j u hu).1
def RowC(w:World)(k:Nat)(v:Value)(L:List (List Value)):Prop:=∃A cap,v=.slice A L.length cap/\L.length<=cap/\∀(i:Nat)(cs:List Value),L[i]? = some cs->∃b off,A=some ⟨b,off,none⟩/\b<w.heap.size/\∀(j:Nat)(x:Value),cs[j]? = some x->w.cell? ⟨b,off+i*k+j,none⟩=some x
def RowC.below{w W}{k:Nat}{v}{L:List (List Value)}(h:RowC w k v L)(hb:eB w W):RowC W k v L:=by
 obtain⟨A,cap,rfl,ab,h⟩:=h;refine⟨A,cap,rfl,ab,fun i u hu=>?_⟩;obtain⟨b,off,e,hl,hc⟩:=h i u hu;exact⟨b,off,e,Nf hl hb.size,fun j x hx=>(hb.cell (p:=⟨b,_,none⟩) hl).trans (hc j x hx)⟩
def RowC.nil(w)(k:Nat)(A)(cap:Nat):RowC w k (.slice A 0 cap) []:=⟨A,cap,rfl,Nu _,fun i cs h=>by simp at h⟩
def RowC.keep{w W:World}{k:Nat}{v}{L:List (List Value)}(h:RowC w k v L)(hs:w.heap.size<=W.heap.size)(hk:∀b o,b<w.heap.size->(∀A n cap,v=.slice (some A) n cap->b=A.block->W.cell? ⟨b,o,none⟩=w.cell? ⟨b,o,none⟩)):RowC W k v L:=by
 obtain⟨A,cap,rfl,ab,h⟩:=h;refine⟨A,cap,rfl,ab,fun i u hu=>?_⟩;obtain⟨b,off,e,hl,hc⟩:=h i u hu;subst e;exact⟨b,off,rfl,Nf hl hs,fun j x hx=>(hk b _ hl _ _ _ rfl rfl).trans (hc j x hx)⟩
def RowC.len{w}{k:Nat}{v}{L:List (List Value)}(h:RowC w k v L):∃A cap,v=.slice A L.length cap:=by
 obtain⟨A,cap,e,_⟩:=h;exact⟨A,cap,e⟩
def RowC.cap{w}{k:Nat}{A}{n cap:Nat}{L:List (List Value)}(h:RowC w k (.slice A n cap) L):n<=cap:=by
 obtain⟨A',ab,e,hc,_⟩:=h
 cases e;exact hc
end
section
open Go Go.RowKit Bf
def aE(P:Program)(ops:Array Oper)(Q:Exit->Act->World->Prop)(S:World->Prop):List Nat->Act->World->Prop
 |[],a,w=>Q .normal a w
 |i::is,a,w=>if Nat.blt i 1000=true then ∃o v,ops[i]? = some o/\YieldsIf P ops S o v a/\aE P ops Q S is (a.put o.dst v) w
  else wpOp P ops Q (i-1000) (fun a' w'=>S w'/\aE P ops Q S is a' w') a w
def ju(md:Region.Mode)(ops:Array Oper):List Nat->Array Bool->Bool
 |[],listed=>(Region.ready md ops listed).isEmpty
 |i::is,listed=>if Nat.blt i 1000=true then Region.free md ops listed i&&(Region.ready md ops listed).contains i&&ju md ops is (listed.setIfInBounds i true)
  else(Region.ready md ops listed==[i-1000])&&ju md ops is (listed.setIfInBounds (i-1000) true)
def jv(l:List Oper)(ab:List Nat):Bool:=Region.noSelect l.toArray&&(Nat.ble ab.length l.toArray.size&&ju .any l.toArray ab (Array.replicate l.toArray.size false))
def pn{P}{md:Region.Mode}{ops}{Q}{S:World->Prop}(hs:Region.noSelect ops=true)(hQ:∀(i:Nat)(o),ops[i]? = some o->∀c (a:Act) (v) (w),Q (.panic c) (a.put o.dst v) w->Q (.panic c) a w) :∀(ac:List Nat)(fuel:Nat) (listed:Array Bool) (a:Act) (w:World),ac.length<=fuel->ju md ops ac listed=true->S w->aE P ops Q S ac a w->wpAnyH P md ops Q S fuel listed a w:=by
 intro ac;induction ac with
 |nil=>
  intro fuel listed a w _ ab _ h
  refine wpAnyH_done ?_ h _
  simpa[ju]using ab
 |cons i is ih=>
  intro fuel listed a w hf ab hS h
  obtain⟨f,rfl⟩:∃f,fuel=f+1:=⟨fuel-1,by simp only[M6]at hf;omega⟩
  simp only[M6]at hf
  unfold aE at h
  unfold ju at ab
  split at h
  ·rename_i hi
   rw[if_pos hi]at ab
   simp only[Ob]at ab
   obtain⟨o,v,ho,hy,h⟩:=h
   exact wpAnyH_take ho hs ab.1.1 ab.1.2 (fun c a w h=>hQ _ _ ho c a _ w h) hy hS (ih f _ _ w (by omega) ab.2 hS h)
  ·rename_i hi
   rw[if_neg hi,Ob,beq_iff_eq]at ab
   refine wpAnyH_all ab.1 (List.cons_ne_nil _ _) (fun j hj=>?_)
   have ad:j=i-1000:=Oi.1 hj
   rw[ad]
   exact wpOp_mono (fun a' w' h'=>⟨h'.1,ih f _ a' w' (by omega) ab.2 h'.1 h'.2⟩) h
section
variable {P:Program} {l rest:List Oper} {Q:Exit->Act->World->Prop} {S:World->Prop} {i:Nat} {is:List Nat} {o:Oper} {v:Value} {a:Act} {w:World}
def mV(hi:Nat.blt i 1000=true)(hl:l.drop i=o::rest)(hw:Region.wanted o (yielded l.toArray a.tmps)=true)(hy:∀w,S w->(execOp a.eval o).run P w=.ok (.value v) w)(h:aE P l.toArray Q S is (a.put o.dst v) w):aE P l.toArray Q S (i::is) a w:=by
 unfold aE;rw[if_pos hi];exact⟨o,v,eM hl,Or.inl ⟨hw,hy⟩,h⟩
def D2(hi:Nat.blt i 1000=false)(hl:l.drop (i-1000)=o::rest)(hw:Region.wanted o (yielded l.toArray a.tmps)=false)(hS:S w)(h:aE P l.toArray Q S is (a.put o.dst undef) w):aE P l.toArray Q S (i::is) a w:=by
 unfold aE;rw[if_neg (by simp[hi])];refine wpOp_step (eM hl) (fun K' hK=>?_);rw[if_neg (by simp[hw])];exact hK _ _ ⟨hS,h⟩
def D3(hi:Nat.blt i 1000=true)(hl:l.drop i=o::rest)(hw:Region.wanted o (yielded l.toArray a.tmps)=false)(h:aE P l.toArray Q S is (a.put o.dst undef) w):aE P l.toArray Q S (i::is) a w:=by
 unfold aE;rw[if_pos hi];exact⟨o,undef,eM hl,Or.inr ⟨hw,rfl⟩,h⟩
def gB(hi:Nat.blt i 1000=false)(hl:l.drop (i-1000)=o::rest)(hw:Region.wanted o (yielded l.toArray a.tmps)=true)(h:∀K':Act->World->Prop,Shut (∀a w,S w->(S w->aE P l.toArray Q S is a w)->K' a w)->Oper.wp P o a w K' Q):aE P l.toArray Q S (i::is) a w:=by
 unfold aE;rw[if_neg (by simp[hi])];refine wpOp_step (eM hl) (fun K' hK=>?_);rw[if_pos hw];exact h K' (fun a w hS hW=>hK a w ⟨hS,hW hS⟩)
def aj(h:Q .normal a w):aE P l.toArray Q S [] a w:=h
variable {a':Act}
def sQ{i:Nat}(h:aE P l.toArray Q S is a' w)(hi:Nat.blt i 1000=true:=by rfl)(hl:l.drop i=o::rest:=by rfl)(hw:Region.wanted o (yielded l.toArray a.tmps)=true:=by rfl)(hy:∀w,S w->(execOp a.eval o).run P w=.ok (.value v) w:=by(intro w ab;(try dsimp only at ab);go_simp;try(with_reducible rfl)))(e:a.put o.dst v=a':=by(try simp only[PT]);try rfl):aE P l.toArray Q S (i::is) a w:=by
 subst e;exact mV hi hl hw hy h
def sS{i:Nat}(h:aE P l.toArray Q S is a' w)(hi:Nat.blt i 1000=true:=by rfl)(hl:l.drop i=o::rest:=by rfl)(hw:Region.wanted o (yielded l.toArray a.tmps)=false:=by rfl)(e:a.put o.dst undef=a':=by(try simp only[PT]);try rfl):aE P l.toArray Q S (i::is) a w:=by
 subst e;exact D3 hi hl hw h
def ay{X G:Prop}(h:X)(g:X->G:=by first|exact fun h=>sQ h|exact fun h=>sS h):G:=g h
def az(h:∀K':Act->World->Prop,Shut (∀a w,S w->(S w->aE P l.toArray Q S is a w)->K' a w)->Oper.wp P o a w K' Q)(hi:Nat.blt i 1000=false:=by rfl)(hl:l.drop (i-1000)=o::rest:=by rfl)(hw:Region.wanted o (yielded l.toArray a.tmps)=true:=by rfl):aE P l.toArray Q S (i::is) a w:=gB hi hl hw h
def aJ{id:Nat}(ac:List Nat)(hS:S w.drew)(h:S w.drew->aE P l.toArray Q S ac a w.drew)(hm:P.follows .mixedOrders=true:=by kernel_rfl)(ab:jv l ac=true:=by kernel_rfl)(hQ:∀(i:Nat)(o),l.toArray[i]? = some o->∀c (a:Act) (v) (w),Q (.panic c) (a.put o.dst v) w->Q (.panic c) a w:=by(intro i o _ c a v w;generalize o.dst=d;cases d <;> exact fun h=>h)):(Code.region id l.toArray true).wp P Q a w:=by
 simp only[jv,Ob,Nat.ble_eq]at ab;exact wp_region_held hm (pn ab.1 hQ ac _ _ a _ ab.2.1 ab.2.2 hS (h hS))
def pp{L n id:Nat}(ac:List Nat)(hm:P.follows .mixedOrders=true)(ad:rU l.toArray=true)(ab:jv l ac=true)(hS:S w.drew)(h:S w.drew->aE P l.toArray (cZ Q) S ac a w.drew):(Code.region id l.toArray true).wpIn (Fence.wide.inRound L) n P Q a w:=by
 simp only[jv,Ob,Nat.ble_eq]at ab;exact mR hm ad hS (fun hS=>pn ab.1 (fun _ _ _ _ _ _ _ h=>h) ac _ _ a _ ab.2.1 ab.2.2 hS (h hS))
end
def bW(P:Program)(T:TypeId)(n:Nat):Bool:=
 (match P.underlying T with|some d=>d.isRow|none=>false)&&(match P.info? T with|some i=>i.size==n&&(match i.zero with|some z=>z.cells.size==n|none=>false)|none=>false)
def jw{P}{T}{n:Nat}(h:bW P T n=true):∃d,P.underlying T=some d/\d.isRow=true:=by
 unfold bW at h;rw[Ob]at h
 cases hu:P.underlying T with
 |none=>simp only[hu]at h;cases h.1
 |some d=>simp only[hu]at h;exact⟨d,rfl,h.1⟩
def pq{P}{T}{n:Nat}(h:bW P T n=true):∃i z,P.info? T=some i/\i.size=n/\i.zero=some z/\z.cells.size=n:=by
 unfold bW at h;rw[Ob]at h;replace h:=h.2
 cases hi:P.info? T with
 |none=>simp only[hi]at h;cases h
 |some i=>
  simp only[hi]at h
  rw[Ob]at h
  obtain⟨h1,h2⟩:=h
  cases hz:i.zero with
  |none=>simp only[hz]at h2;cases h2
  |some z=>simp only[hz]at h2;exact⟨i,z,rfl,by simpa using h1,hz,by simpa using h2⟩
def eQ{P}{T}{n:Nat}(h:bW P T n=true):(P.info? T).map (·.size)=some n:=by
 obtain⟨i,z,hi,hs,_⟩:=pq h;rw[hi,<-hs];rfl
def sa{P}{ops}{rest}{op:Oper}{a:Act}{w:World}{Q}(T)(n:Nat)(hT:bW P T n=true)(ab:op.guard=none)(x)(ho:op.op=.load T x)(b o:Nat)(hx:a.eval x=.pointer (some ⟨b,o,none⟩))(cs:List Value)(hn:cs.length=n)(hc:w.rangeAt b o cs)(h:wpList P ops Q rest (a.put op.dst (.agg cs.toArray)) w):wpList P ops Q (op::rest) a w:=by
 obtain⟨d,hu,hd⟩:=jw hT;exact wpList_load_mid ab T x ho b o hx cs d hc hu hd (by rw[eQ hT,hn]) h
def D4{P}{ops}{rest}{o1 o2:Oper}{a:Act}{w:World}{Q}(T)(n:Nat)(hT:bW P T n=true)(g1:o1.guard=none)(g2:o2.guard=none)(x y)(h1:o1.op=.alloc T)(h2:o2.op=.store T x y)(N:Nat)(hN:w.heap.size=N)(hx:(a.put o1.dst (.pointer N)).eval x=.pointer N)(cs:List Value)(hy:(a.put o1.dst (.pointer N)).eval y=.agg cs.toArray)(hn:cs.length=n)(hc:(cs.all fun v=>v.oneCell')=true)(h:wpList P ops Q rest ((a.put o1.dst (.pointer N)).put o2.dst undef) (w.alloc (.cells cs.toArray T))):wpList P ops Q (o1::o2::rest) a w:=by
 subst hN;obtain⟨i,z,hi,hs,hz,ag⟩:=pq hT;refine wpList_plain g1 fun K hK=>?_;have e1:(execOp a.eval o1).run P w=.ok (.value (.pointer w.heap.size)) (w.alloc (.cells z.cells T)):=by
  unfold execOp;simp only[h1];simp[Instr.alloc,zeroValue,typeInfo,hi,hz,newVar,go_sem]
 unfold Oper.wp;rw[e1,Oper.upon_value];refine hK _ _ ?_;refine wpList_plain g2 fun K' ac=>?_;have ab:(cs.toArray).size=n:=by simpa using hn
 have ad:=run_storeAt_new (P:=P) w T z.cells cs.toArray (by rw[eQ hT,ab]) (by rw[ag,ab]) (by simpa using hc);have e2:(execOp (a.put o1.dst (.pointer w.heap.size)).eval o2).run P (w.alloc (.cells z.cells T))=.ok .skip (w.alloc (.cells cs.toArray T)):=by
  unfold execOp;simp only[h2,hx,hy,NM,ad,NO,NN]
 unfold Oper.wp;rw[e2,Oper.upon_skip];exact ac _ _ h
def ai{w}{b:Nat}{cs}{T}(h:Blk w b cs T):w.rangeAt b 0 cs:=fun j v hv=>by
 rw[Nm];exact(h.at j v hv).1
section
variable {P:Program} {ops:Array Oper} {rest:List Oper} {op o1 o2:Oper} {a:Act} {w:World} {Q:Exit->Act->World->Prop} {n b o N:Nat} {x y:Operand} {cs:List Value}
def wR(T)(hc:w.rangeAt b o cs)(h:wpList P ops Q rest (a.put op.dst (.agg cs.toArray)) w)(ab:op.guard=none:=by rfl)(ho:op.op=.load T x:=by rfl)(hx:a.eval x=.pointer (some ⟨b,o,none⟩):=by rfl)(hn:cs.length=n:=by rfl)(hT:bW P T n=true:=by kernel_rfl):wpList P ops Q (op::rest) a w:=sa T n hT ab x ho b o hx cs hn hc h
def wG(T)(hc:w.rangeAt b o cs)(h:wpList P ops Q rest (a.put op.dst (.agg cs.toArray)) w)(hw:Region.wanted op (yielded ops a.tmps)=true:=by rfl)(ho:op.op=.load T x:=by rfl)(hx:a.eval x=.pointer (some ⟨b,o,none⟩):=by rfl)(hn:cs.length=n:=by rfl)(hT:bW P T n=true:=by kernel_rfl):wpList P ops Q (op::rest) a w:=by
 obtain⟨d,hu,hd⟩:=jw hT;have e:(execOp a.eval op).run P w=.ok (.value (.agg cs.toArray)) w:=by
  unfold execOp;simp only[ho,hx,NM,run_loadAt_mid w b o T cs d hc hu hd (by rw[eQ hT,hn]),NO,NN]
 simp only[wpList];rw[if_pos hw];refine Or.inl ?_;unfold Oper.wp;rw[e,Oper.upon_value];exact h
def wB{T}(hN:w.heap.size=N)(hc:(cs.all fun v=>v.oneCell')=true)(h:wpList P ops Q rest ((a.put o1.dst (.pointer N)).put o2.dst undef) (w.alloc (.cells cs.toArray T)))(h1:o1.op=.alloc T:=by rfl)(h2:o2.op=.store T x y:=by rfl)(hx:(a.put o1.dst (.pointer N)).eval x=.pointer N:=by rfl)(hy:(a.put o1.dst (.pointer N)).eval y=.agg cs.toArray:=by rfl)(hn:cs.length=n:=by rfl)(g1:o1.guard=none:=by rfl)(g2:o2.guard=none:=by rfl)(hT:bW P T n=true:=by kernel_rfl):wpList P ops Q (o1::o2::rest) a w:=D4 T n hT g1 g2 x y h1 h2 N hN hx cs hy hn hc h
end
end
namespace Bf
def timesN(an:Bool)(x y:Nat)(bn:Bool)(x' y':Nat):Option (Bool×Nat×Nat):=
 if x*x'<LIM/\y*y'<LIM then some (an != bn,x*x',y*y')else none
def plusN(an:Bool)(x y:Nat)(bn:Bool)(x' y':Nat):Option (Bool×Nat×Nat):=
 if x*y'<LIM/\x'*y<LIM/\y*y'<LIM then
  if an=bn then(if x*y'+x'*y<LIM then some (an,x*y'+x'*y,y*y')else none)
  else if x*y'<x'*y then some (bn,x'*y-x*y',y*y')else some (an,x*y'-x'*y,y*y')
 else none
def iR:Option (Bool×Nat×Nat)->Option Rt
 |some (g,n,d)=>some (lowR g n d)
 |none=>none
def addR(a b:Rt):Option Rt:=iR (plusN a.neg a.n a.d b.neg b.n b.d)
def iS(neg:Bool)(n:Nat):Bool:= !neg&&n != 0
def subR(a b:Rt):Option Rt:=iR (plusN a.neg a.n a.d (iS b.neg b.n) b.n b.d)
def jx{an bn:Bool}{x y x' y':Nat}{g:Bool}{n d:Nat}(h:plusN an x y bn x' y'=some (g,n,d)):n<LIM/\d<LIM/\d=y*y':=by
 unfold plusN at h;split at h
 ·rename_i hc;split at h
  ·split at h
   ·cases h;exact⟨by assumption,hc.2.2,rfl⟩
   ·cases h
  ·split at h
   ·cases h;exact⟨by omega,hc.2.2,rfl⟩
   ·cases h;exact⟨by omega,hc.2.2,rfl⟩
 ·cases h
def lk{an bn:Bool}{x y x' y':Nat}{g:Bool}{n d:Nat}(h:timesN an x y bn x' y'=some (g,n,d)):n<LIM/\d<LIM/\d=y*y':=by
 unfold timesN at h;split at h
 ·rename_i hc;cases h;exact⟨hc.1,hc.2,rfl⟩
 ·cases h
def wJ{r:Option (Bool×Nat×Nat)}{c}(h:iR r=some c)(hr:∀g n d,r=some (g,n,d)->n<LIM/\d<LIM/\0<d):c.ok:=by
 match r,h,hr with
 |some (g,n,d),h,hr=>
  obtain⟨h1,h2,h3⟩:=hr g n d rfl
  simp only[iR,Option.some.injEq]at h
  rw[<-h];exact dq h1 h2 h3
def pw{a b c}(h:addR a b=some c)(ha:a.ok)(hb:b.ok):c.ok:=
 wJ h fun g n d e=>by have:=jx e;exact⟨this.1,this.2.1,by rw[this.2.2];exact Nat.mul_pos ha.2.2.1 hb.2.2.1⟩
def py{a b c}(h:subR a b=some c)(ha:a.ok)(hb:b.ok):c.ok:=
 wJ h fun g n d e=>by have:=jx e;exact⟨this.1,this.2.1,by rw[this.2.2];exact Nat.mul_pos ha.2.2.1 hb.2.2.1⟩
def wK(a b):mulR a b=iR (timesN a.neg a.n a.d b.neg b.n b.d):=by
 unfold mulR timesN;split <;> rfl
def ae:Rt:=⟨false,0,1⟩
def aq:Rt:=⟨false,1,1⟩
def jy:ae.ok:=by refine⟨DO,?_,by decide,by decide,by simp[ae]⟩;exact Nat.one_lt_pow (by omega) (by omega)
def jz:aq.ok:=by
 have h:1<LIM:=Nat.one_lt_pow (by omega) (by omega);exact⟨h,h,by decide,by decide,by simp[aq]⟩
def sumR:List Rt->Rt->Option Rt
 |[],r=>some r
 |a::l,r=>match addR r a with|some c=>sumR l c|none=>none
def wL(l m)(r):sumR (l++m) r=match sumR l r with|some c=>sumR m c|none=>none:=by
 induction l generalizing r with
 |nil=>rfl
 |cons a l ih=>
  simp only[MZ,sumR]
  cases addR r a with
  |none=>rfl
  |some c=>exact ih c
def Es{l}{r c:Rt}(hr:r.ok)(hl:∀a∈l,a.ok)(h:sumR l r=some c):c.ok:=by
 induction l generalizing r with
 |nil=>simp only[sumR,Option.some.injEq]at h;rw[<-h];exact hr
 |cons a l ih=>
  unfold sumR at h
  split at h
  ·rename_i c' h'
   exact ih (pw h' hr (hl a (by simp))) (fun b hb=>hl b (by simp[hb])) h
  ·cases h
end Bf
section
open Go.RowKit Bf
structure aC where
 name:ByteArray
 of:ByteArray
 n:Int
 d:Int
 base:Int
 neg:Bool
 sn:ByteArray
 sd:ByteArray
def aW(u:aC):List Value:=[.string u.name,.string u.of,.int .i64 u.n,.int .i64 u.d,.int .i64 u.base,.bool u.neg,.string u.sn,.string u.sd]
structure dP where
 name:ByteArray
 unit:ByteArray
 massN:Int
 massD:Int
 shelf:Int
 unitNo:Int
def dw(u:dP):List Value:=[.string u.name,.string u.unit,.int .i64 u.massN,.int .i64 u.massD,.int .i64 u.shelf,.int .i64 u.unitNo]
structure eW where
 name:ByteArray
 plant:ByteArray
 clean:Int
 plantNo:Int
def dF(u:eW):List Value:=[.string u.name,.string u.plant,.int .i64 u.clean,.int .i64 u.plantNo]
structure OptR where
 name:ByteArray
 cv:Value
 choices:List ByteArray
def bX(u:OptR):List Value:=[.string u.name,u.cv]
def bF(s:ByteArray):List Value:=[.string s]
structure aP where
 option:ByteArray
 choice:ByteArray
 optNo:Int
 chNo:Int
def aT(u:aP):List Value:=[.string u.option,.string u.choice,.int .i64 u.optNo,.int .i64 u.chNo]
structure aw where
 n:Int
 d:Int
 unit:ByteArray
 item:ByteArray
 back:Bool
 unitNo:Int
 itemNo:Int
def aG(u:aw):List Value:=[.int .i64 u.n,.int .i64 u.d,.string u.unit,.string u.item,.bool u.back,.int .i64 u.unitNo,.int .i64 u.itemNo]
structure cO where
 machine:ByteArray
 slots:Int
 machNo:Int
def cQ(u:cO):List Value:=[.string u.machine,.int .i64 u.slots,.int .i64 u.machNo]
structure RecR where
 item:ByteArray
 plant:ByteArray
 frm:Int
 til:Int
 ifv:Value
 inv:Value
 outv:Value
 reworkN:Int
 reworkD:Int
 yieldN:Int
 yieldD:Int
 tolN:Int
 tolD:Int
 lead:Int
 runv:Value
 itemNo:Int
 plantNo:Int
 ifs:List aP
 ins:List aw
 outs:List aw
 runs:List cO
def am(u:RecR):List Value:=[.string u.item,.string u.plant,.int .i64 u.frm,.int .i64 u.til,u.ifv,u.inv,u.outv,.int .i64 u.reworkN,.int .i64 u.reworkD,.int .i64 u.yieldN,.int .i64 u.yieldD,.int .i64 u.tolN,.int .i64 u.tolD,.int .i64 u.lead,u.runv,.int .i64 u.itemNo,.int .i64 u.plantNo]
structure fD where
 a:ByteArray
 b:ByteArray
 aNo:Int
 bNo:Int
def eX(u:fD):List Value:=[.string u.a,.string u.b,.int .i64 u.aNo,.int .i64 u.bNo]
structure ForbR where
 cv:Value
 conds:List aP
def gc(u:ForbR):List Value:=[u.cv]
structure SrcR where
 uv:Value
 iv:Value
 pv:Value
 mv:Value
 ov:Value
 fv:Value
 rv:Value
 sv:Value
 units:List aC
 items:List dP
 plants:List ByteArray
 machs:List eW
 opts:List OptR
 forbs:List ForbR
 recs:List RecR
 swaps:List fD
def srcC(s:SrcR):List Value:=[s.uv,s.iv,s.pv,s.mv,s.ov,s.fv,s.rv,s.sv]
abbrev BIG:Nat:=1048576
structure aQ(w:World)(r:RecR):Prop where
 ifs:RowC w 4 r.ifv (r.ifs.map aT)
 ins:RowC w 7 r.inv (r.ins.map aG)
 outs:RowC w 7 r.outv (r.outs.map aG)
 runs:RowC w 3 r.runv (r.runs.map cQ)
 ifl:r.ifs.length<=BIG
 inl:r.ins.length<=BIG
 outl:r.outs.length<=BIG
 runl:r.runs.length<=BIG
structure ap(w:World)(s:SrcR):Prop where
 units:RowC w 8 s.uv (s.units.map aW)
 items:RowC w 6 s.iv (s.items.map dw)
 plants:RowC w 1 s.pv (s.plants.map bF)
 machs:RowC w 4 s.mv (s.machs.map dF)
 opts:RowC w 2 s.ov (s.opts.map bX)
 forbs:RowC w 1 s.fv (s.forbs.map gc)
 recs:RowC w 17 s.rv (s.recs.map am)
 swaps:RowC w 4 s.sv (s.swaps.map eX)
 opt:∀o∈s.opts,RowC w 1 o.cv (o.choices.map bF)/\o.choices.length<=BIG
 forb:∀f∈s.forbs,RowC w 4 f.cv (f.conds.map aT)/\f.conds.length<=BIG
 recv:∀r∈s.recs,aQ w r
 ul:s.units.length<=BIG
 il:s.items.length<=BIG
 pl:s.plants.length<=BIG
 ml:s.machs.length<=BIG
 ol:s.opts.length<=BIG
 fl:s.forbs.length<=BIG
 rl:s.recs.length<=BIG
 sl:s.swaps.length<=BIG
def aQ.below{w W}{r}(h:aQ w r)(hb:eB w W):aQ W r:=
 ⟨h.ifs.below hb,h.ins.below hb,h.outs.below hb,h.runs.below hb,h.ifl,h.inl,h.outl,h.runl⟩
def ap.below{w W}{s}(h:ap w s)(hb:eB w W):ap W s:=
 ⟨h.units.below hb,h.items.below hb,h.plants.below hb,h.machs.below hb,h.opts.below hb,h.forbs.below hb,h.recs.below hb,h.swaps.below hb,
  fun o ho=>⟨(h.opt o ho).1.below hb,(h.opt o ho).2⟩,fun o ho=>⟨(h.forb o ho).1.below hb,(h.forb o ho).2⟩,fun r hr=>(h.recv r hr).below hb,h.ul,h.il,h.pl,h.ml,h.ol,h.fl,h.rl,h.sl⟩
def aZ(n:Int)(many:Nat):Bool:=decide (0<=n)&&decide (n<(many:Int))
def ki(l:List Int):Bool:=(List.range l.length).any fun i=>(List.range i).any fun j=>l[i]?==l[j]?
def baseO(s:SrcR)(item:Int):Option Int:=
 if aZ item s.items.length then
  match s.items[item.toNat]? with
  |some i=>if aZ i.unitNo s.units.length then(s.units[i.unitNo.toNat]?).map (·.base)else none
  |none=>none
 else none
def eE(s:SrcR)(i:dP):Bool:=(aZ i.unitNo s.units.length&&btw i.massN 0 1048576)&&(btw i.massD 1 1048576&&btw i.shelf 0 1023)
def lC(s:SrcR)(x:aP):Bool:=aZ x.optNo s.opts.length&&(match s.opts[x.optNo.toNat]? with|some o=>aZ x.chNo o.choices.length|none=>false)
def ic(s:SrcR)(l:List aP):Bool:=l.all (lC s)&& !ki (l.map (·.optNo))
def bM(s:SrcR)(a:aw):Bool:=(btw a.n 1 1048576&&btw a.d 1 1048576)&&(match baseO s a.itemNo with|some b=>aZ a.unitNo s.units.length&&(match s.units[a.unitNo.toNat]? with|some u=>u.base==b|none=>false)|none=>false)
def kj(n d:Int):Bool:=btw d 1 1048576&&btw n 0 d
def km(s:SrcR)(r:RecR):Bool:=(match r.outs[0]? with|some a=>a.itemNo==r.itemNo|none=>false)&&(r.outs.all (fun a=>bM s a&& !a.back)&& !ki (r.outs.map (·.itemNo)))
def nh(s:SrcR)(r:RecR)(x:cO):Bool:=(aZ x.machNo s.machs.length&&(match s.machs[x.machNo.toNat]? with|some m=>m.plantNo==r.plantNo|none=>false))&&btw x.slots 0 15
def nj(s:SrcR)(r:RecR):Bool:=r.runs.all (nh s r)&& !ki (r.runs.map (·.machNo))
def nk(s:SrcR)(x:fD):Bool:=
 match baseO s x.aNo,baseO s x.bNo with
 |some a,some b=>(a==b)&&(x.aNo != x.bNo)
 |_,_=>false
def aX(s:SrcR)(ok:Bool):List Value:=[s.uv,s.iv,s.pv,s.mv,s.ov,s.fv,s.rv,s.sv,.bool ok]
def Fj(n m:Int)(w):Calls prog 32 #[.int .i64 n,.int .i64 m] w fun e w'=>e=.returned (.bool (decide (0<=n)&&decide (n<m)))/\w=w':=by
 by_cases h1:0<=n
 ·have t1:decide (0<=n)=true:=by simpa using h1
  by_cases h2:n<m
  ·have t2:decide (n<m)=true:=by simpa using h2
   go_enter func32,ntmps32;go_wp2;go_ret;exact⟨by first|rfl|(rw[t1,t2];rfl),rfl⟩
  ·have t2:decide (n<m)=false:=by simpa using h2
   go_enter func32,ntmps32;go_wp2;go_ret;exact⟨by first|rfl|(rw[t1,t2];rfl),rfl⟩
 ·have t1:decide (0<=n)=false:=by simpa using h1
  go_enter func32,ntmps32;go_wp2;go_ret;exact⟨by first|rfl|(rw[t1];rfl),rfl⟩
def Fk(n l g:Int)(w):Calls prog 189 #[.int .i64 n,.int .i64 l,.int .i64 g] w fun e w'=>e=.returned (.bool (decide (l<=n)&&decide (n<=g)))/\w=w':=by
 by_cases h1:l<=n
 ·have t1:decide (l<=n)=true:=by simpa using h1
  by_cases h2:n<=g
  ·have t2:decide (n<=g)=true:=by simpa using h2
   go_enter func189,ntmps189;go_wp2;go_ret;exact⟨by first|rfl|(rw[t1,t2];rfl),rfl⟩
  ·have t2:decide (n<=g)=false:=by simpa using h2
   go_enter func189,ntmps189;go_wp2;go_ret;exact⟨by first|rfl|(rw[t1,t2];rfl),rfl⟩
 ·have t1:decide (l<=n)=false:=by simpa using h1
  go_enter func189,ntmps189;go_wp2;go_ret;exact⟨by first|rfl|(rw[t1];rfl),rfl⟩
def Fl(n:Int)(m:Nat)(w):Calls prog 32 #[.int .i64 n,.int .i64 (m:Int)] w fun e w'=>e=.returned (.bool (aZ n m))/\w=w':=Fj n m w
def Fm(n l g:Int)(w):Calls prog 189 #[.int .i64 n,.int .i64 l,.int .i64 g] w fun e w'=>e=.returned (.bool (btw n l g))/\w=w':=Fk n l g w
end
section
open Go Go.RowKit Bf
attribute [local go_sem] Oper.semAt_some
def aI(T:TypeId)(W W':World):Prop:=∀(b:Nat)(cs:Array Value) (fr:Nat×Nat),W.heap[b]? = some (Obj.cells cs T fr)->W'.heap[b]? = some (Obj.cells cs T fr)
def aI.refl(T)(W):aI T W W:=fun _ _ _ h=>h
def aI.trans{T}{A B C}(h:aI T A B)(k:aI T B C):aI T A C:=fun b cs fr e=>k b cs fr (h b cs fr e)
def aI.putObj{T}{W:World}{r:Nat}{o:Obj}(o':Obj)(h:W.heap[r]? = some o)(ho:o.isCells=false):aI T W (W.putObj r o'):=fun b cs fr e=>by
 rw[OM (fun he=>by subst he;rw[h]at e;cases e;simp[Obj.isCells]at ho)];exact e
def aI.grown{T}{W W':World}{row:Option Nat}(hg:W.grownBy W' row)(hr:∀r cs fr,row=some r->W.heap[r]?≠some (Obj.cells cs T fr)):aI T W W':=fun b cs fr e=>
 (hg.block b (NX.1 e).1 (fun he=>hr b cs fr he.symm e)).trans e
def pY{β:Type}(B:Nat)(T:TypeId)(J:β->World->Prop):Prop:=
 ∀s W W' row,J s W->W.grownBy W' row->(∀r,row=some r->B<=r/\∃o:Obj,W.heap[r]? = some o/\(o.isCells=false\/∃cs fr,o=Obj.cells cs T fr))->J s W'
def AbX{β:Type}(B:Nat)(T:TypeId)(J:β->World->Prop):Prop:=
 ∀s W W' row,J s W->W.grownBy W' row->(∀r,row=some r->B<=r/\∃o:Obj,W.heap[r]? = some o/\(o.isWalk=true\/∃cs fr,o=Obj.cells cs T fr))->J s W'
def nK{α:Type}(F:Fence)(n:Nat)(P:Program)(g:Nat)(lb:Array Value)(encs:α->Array Value)(T:TypeId)(S:List α->World->Prop)(N:Nat)(w:World):Prop:=
 ∀(l:Nat)(J:List α->World->Prop) (W:World),eB w W->AbX W.heap.size T J->
  (∀pre x W1,J pre W1->pre.length<N->YieldAt F (n-1) P l (encs x) W1 fun e W'=>e=.returned (.bool true)/\J (pre++[x]) W'/\aI T W1 W'/\Below w.heap.size W1 W'/\KeepsWalks W1 W')->
  J [] W->
  CallsIn F n P g (#[.func (.yield l) #[] #[]]++lb) W fun e W'=>(∃v,e=.returned v)/\∃xs,S xs W'/\J xs W'
variable {F:Fence} {n:Nat} {P:Program}
def yg{α:Type}{g}{ps:Array Tmp}{assign body:Code}{Q}{a:Act}{w}(co:F.round=none)(h1:1<=n){gf:Nat}{lb}(hg:a.eval g=.func (.func gf) #[] lb)(bs:F.fn gf)(eg:∀args w,(callFunc gf args).run P w=.ok (.enter gf args) w){encs:α->Array Value}{T}{S:List α->World->Prop}{N:Nat}{w0}(bn:nK F (n-1) P gf lb encs T S N w0)(ar:eB w0 w)(cn:∀x,(encs x).size=ps.size)(I:List α->World->Prop)(hI:pY w.heap.size T I)(hS:OwnFrom w.heap.size S)(h0:I [] w)(Ax:α->Act->World->Prop)(hAx:∀x a',OwnFrom w.heap.size (fun(_:Unit) W=>Ax x a' W))(ag:∀(l:Nat)(x:α) (W:World) (K:Act->World->Prop),(∀a' W',W.grownBy W' none->Ax x a' W'->K a' W')->assign.wpIn (F.inRound l) (n-1-1) P (Exit.then K (fun _ _ _=>False)) {tmps:=(ps.zip (encs x)).foldl (fun t (p,v)=>t.setIfInBounds p v) a.tmps,defers:=[]} W)(av:∀(l:Nat)(pre:List α) (x:α) (a') (W),I pre W->Ax x a' W->pre.length<N->body.wpIn (F.inRound l) (n-1-1) P (Exit.then (fun _ W'=>KeepsOthers W W'/\aI T W W'/\Below w0.heap.size W W'/\I (pre++[x]) W') (fun _ _ _=>False)) a' W)(ax:∀(D:Nat)(xs:List α) (W),w.heap.size<=D->S xs W->I xs W->W.heap[D]? = some (.deferred (some []))->Q .normal {a with defers:={target:= .collected D,args:=#[]}::a.defers} W) :(Code.rangeFunc g ps assign body).wpIn F n P Q a w:=by
 refine wpIn_rangeFunc ?_;intro fn cb;rw[co];obtain⟨ac,ab⟩:∃ac:LoopState->Option Code->Loop,ac=fun st pe=>{state:=st,pending:=pe,fn,tmps:=a.tmps,params:=ps,assign,body,defers:=w.heap.size}:=⟨_,rfl⟩
 obtain⟨W1,an⟩:=nm ((w.alloc (.deferred (some []))).alloc (.loop (ac .ready none)));have cr:W1.heap.size=w.heap.size+1+1:=by rw[<-an];simp
 have bv:W1.heap[w.heap.size+1]? = some (.loop (ac .ready none)):=by
  rw[<-an];have:=N8 (w.alloc (.deferred (some []))) (.loop (ac .ready none));rwa[NU]at this
 have bu:W1.heap[w.heap.size]? = some (.deferred (some [])):=by
  rw[<-an];exact(NT _ _ _ (by simp)).trans (N8 w _)
 have bo:∀(V:World)(o:Obj),I [] V->I [] (V.alloc o):=fun V o h=>hI _ V _ none h (ON V o none) (fun r e=>by cases e);have bt:I [] W1:=by rw[<-an];exact bo _ _ (bo _ _ h0)
 have bx:eB w0 W1:=by
  rw[<-an];exact ar.trans ((((NB _ w).alloc (No _) _).alloc (by simp) _).mono ar.size)
 have al:∀(s:List α)(W:World) (o o':Obj),I s W->W.heap[w.heap.size+1]? = some o->o.isCells=false->I s (W.putObj (w.heap.size+1) o'):=fun s W o o' hs hl ho=>
  hI s W _ (some (w.heap.size+1)) hs (grownBy_putObj' W _ o') (fun r e=>by cases e;exact⟨by omega,o,hl,.inl ho⟩)
 have bp:∀(W:World)(o':Obj),W.heap.size > w.heap.size+1->Below w0.heap.size W (W.putObj (w.heap.size+1) o'):=fun W o' h=>
  (NB _ W).grown (grownBy_putObj' W _ o') (by have:=ar.size;omega) (fun k e=>by cases e;have:=ar.size;omega)
 refine⟨w.heap.size+1,[{target:= .collected w.heap.size,args:=#[]}],W1,{target:= .fn (.func gf) lb,args:=#[.func (.yield (w.heap.size+1)) #[] #[]]},W1,gf,
  #[.func (.yield (w.heap.size+1)) #[] #[]]++lb,W1,?_,?_,?_,?_,fun _=>h1,?_⟩
 ·rw[<-an,ab];exact run_enterLoop_outer _ _ _ _ _
 ·simp only[resolve,hg];simp[go_sem]
 ·intro f' br;simp[Target.leads]at br;subst br;exact bs
 ·simp[invoke,go_sem,eg]
 ·refine(bn (w.heap.size+1)
   (fun pre W=>I pre W/\W.heap[w.heap.size+1]? = some (.loop (ac .ready none))/\W.heap[w.heap.size]? = some (.deferred (some [])))
   W1 bx
   (fun s A B row hs hg' hr=>⟨hI s A B row hs.1 hg' (fun r e=>by
    obtain⟨hB,o,ho,bd⟩:=hr r e;refine⟨by omega,o,ho,?_⟩;rcases bd with bd|bd
    ·exact .inl (Obj.not_cells_of_walk bd)
    ·exact .inr bd),
    (hg'.block _ (NX.1 hs.2.1).1 (fun e=>by have:=(hr _ e.symm).1;omega)).trans hs.2.1,
    (hg'.block _ (NX.1 hs.2.2).1 (fun e=>by have:=(hr _ e.symm).1;omega)).trans hs.2.2⟩)
   ?_ ⟨bt,bv,bu⟩).mono ?_
  ·rintro pre x W ⟨hi,hl,hk⟩ bm;have cm:w.heap.size+1<W.heap.size:=(NX.1 hl).1;have hy:=run_yield (P:=P) (args:=encs x) hl (by rw[ab];exact cn x);rw[ab]at hy;refine⟨fn,_,assign,body,hy,roundIn_of_wpIn cb (ag _ x W _ fun a' W' ad bw=>?_)⟩;have ao:W'.heap[w.heap.size+1]? = some (.loop (ac .ready none)):=(ad.block _ cm (by simp)).trans hl;have cf:W'.heap[w.heap.size]? = some (.deferred (some [])):=(ad.block _ (by omega) (by simp)).trans hk;have bb:w.heap.size+1<W'.heap.size:=(NX.1 ao).1;have cc:I pre W':=hI _ W _ none hi ad (fun r e=>by cases e);have bk:KeepsOthers W W':=KeepsOthers.of_grownBy ad (fun j o e _=>by cases e);have bl:aI T W W':=aI.grown ad (fun r cs fr e=>by cases e);have bg:Below w0.heap.size W W':=⟨ad.os,ad.tape,ad.output,ad.size,fun k hk=>ad.block k (by have:=ar.size;omega) (by simp)⟩
   refine⟨_,run_beginRound ao (by rw[ab]),?_⟩;have cl:(W'.putObj (w.heap.size+1) (.loop {ac .ready none with state:= .busy})).heap[w.heap.size+1]? = some (.loop {ac .ready none with state:= .busy}):=World.putObj_heap_same bb;have ci:(W'.putObj (w.heap.size+1) (.loop {ac .ready none with state:= .busy})).heap[w.heap.size]? = some (.deferred (some [])):=(OM (by omega)).trans cf;have cp:aI T W (W'.putObj (w.heap.size+1) (.loop {ac .ready none with state:= .busy})):=bl.trans (aI.putObj _ ao rfl);have bh:=bg.trans (bp W' (.loop {ac .ready none with state:= .busy}) bb);have be:Ax x a' (W'.putObj (w.heap.size+1) (.loop {ac .ready none with state:= .busy})):=hAx x a' () W' _ (some (w.heap.size+1)) bw (grownBy_putObj' W' _ _) (fun r e=>by cases e;exact⟨by omega,_,ao,rfl⟩);refine wpIn_mono (av _ pre x _ _ (al _ _ _ _ cc ao rfl) be bm) ?_;rintro e a3 W3 hp
   cases e with
   |normal=>
    obtain⟨bi,cq,ca,cd⟩:=hp
    have ba:=bi.same _ _ cl rfl
    have hr:=run_endRound (P:=P) none ba
    rw[ab]at hr
    have bc:=(NX.1 ba).1
    refine⟨_,_,hr,rfl,⟨al _ _ _ _ cd ba rfl,?_,(OM (by omega)).trans (bi.same _ _ ci rfl)⟩,(cp.trans cq).trans (aI.putObj _ ba rfl),(bh.trans ca).trans (bp _ _ bc),((bk.walks.trans (KeepsWalks.putObj _ ao rfl)).trans bi.walks).trans (KeepsWalks.putObj _ ba rfl)⟩
    rw[ab]
    exact World.putObj_heap_same bc
   |ret=>exact hp.elim
   |exit id=>exact hp.elim
   |goto t=>exact hp.elim
   |panic ch=>exact hp.elim
   |outgrown=>exact hp.elim
  ·rintro e W2 ⟨⟨v,rfl⟩,xs,hs,hi,hl,hk⟩;have aA:=run_endLoop (P:=P) hl (by rw[ab];simp);rw[ab]at aA;exact⟨none,_,aA,ax _ xs _ (No _) (hS.putObj _ hs (by omega) hl rfl) (al _ _ _ _ hi hl rfl) ((OM (by omega)).trans hk)⟩
def yh{α:Type}{g}{ps:Array Tmp}{assign body:Code}{Q}{a:Act}{w}(ar:F.round=none)(h1:1<=n){gf:Nat}{lb}(hg:a.eval g=.func (.func gf) #[] lb)(al:F.fn gf)(eg:∀args w,(callFunc gf args).run P w=.ok (.enter gf args) w){encs:α->Array Value}{T}{S:List α->World->Prop}{N:Nat}{w0}(ag:nK F (n-1) P gf lb encs T S N w0)(an:eB w0 w)(ao:∀x,(encs x).size=ps.size)(I:List α->World->Prop)(hI:pY w.heap.size T I)(hS:OwnFrom w.heap.size S)(h0:I [] w)(a₁:α->Act)(ab:∀(l:Nat)(x:α) (W) (K:Act->World->Prop),K (a₁ x) W->assign.wpIn (F.inRound l) (n-1-1) P (Exit.then K (fun _ _ _=>False)) {tmps:=(ps.zip (encs x)).foldl (fun t (p,v)=>t.setIfInBounds p v) a.tmps,defers:=[]} W)(ac:∀(l:Nat)(pre:List α) (x:α) (W),I pre W->pre.length<N->body.wpIn (F.inRound l) (n-1-1) P (Exit.then (fun _ W'=>KeepsOthers W W'/\aI T W W'/\Below w0.heap.size W W'/\I (pre++[x]) W') (fun _ _ _=>False)) (a₁ x) W)(ad:∀(D:Nat)(xs:List α) (W),w.heap.size<=D->S xs W->I xs W->W.heap[D]? = some (.deferred (some []))->Q .normal {a with defers:={target:= .collected D,args:=#[]}::a.defers} W) :(Code.rangeFunc g ps assign body).wpIn F n P Q a w:=
 yg ar h1 hg al eg ag an ao I hI hS h0 (fun x a' _=>a'=a₁ x) (fun _ _ _ _ _ _ h _ _=>h) (fun l x W K h=>ab l x W K (h _ W ⟨rfl,rfl,rfl,No _,fun _ _ _=>rfl⟩ rfl)) (fun l pre x a' W h1 h2 h3=>by subst h2;exact ac l pre x W h1 h3) ad
end
section
inductive Rch(E:Nat->Nat->Bool)(n f:Nat):Nat->Nat->Prop
 |one {a b:Nat}:f<=a->a<n->f<=b->b<n->E a b=true->Rch E n f a b
 |more {a b c:Nat}:f<=a->a<n->f<=b->b<n->E a b=true->Rch E n f b c->Rch E n f a c
variable {E:Nat->Nat->Bool} {n:Nat}
def Rch.trans{f a b c:Nat}(h:Rch E n f a b)(k:Rch E n f b c):Rch E n f a c:=by
 induction h with
 |one h1 h2 h3 h4 h5=>exact .more h1 h2 h3 h4 h5 k
 |more h1 h2 h3 h4 h5 _ ih=>exact .more h1 h2 h3 h4 h5 (ih k)
def Rch.up{f a b:Nat}(h:Rch E n f a b):Rch E n (f+1) a b\/((a=f\/Rch E n f a f)/\(b=f\/Rch E n f f b)):=by
 induction h with
 | @one a b h1 h2 h3 h4 h5=>
  by_cases ha:a=f
  ·subst ha;exact .inr ⟨.inl rfl,.inr (.one h1 h2 h3 h4 h5)⟩
  ·by_cases hb:b=f
   ·subst hb;exact .inr ⟨.inr (.one h1 h2 h3 h4 h5),.inl rfl⟩
   ·exact .inl (.one (by omega) h2 (by omega) h4 h5)
 | @more a b c h1 h2 h3 h4 h5 h6 ih=>
  by_cases ha:a=f
  ·subst ha;exact .inr ⟨.inl rfl,.inr (.more h1 h2 h3 h4 h5 h6)⟩
  ·by_cases hb:b=f
   ·subst hb;exact .inr ⟨.inr (.one h1 h2 h3 h4 h5),.inr h6⟩
   ·rcases ih with ih|⟨ab,ac⟩
    ·exact .inl (.more (by omega) h2 (by omega) h4 h5 ih)
    ·rcases ab with e|ab
     ·exact absurd e hb
     ·exact .inr ⟨.inr (.more h1 h2 h3 h4 h5 ab),ac⟩
def Rch.low{f a b:Nat}(h:Rch E n f a b):f<=a/\a<n:=by
 cases h with
 |one h1 h2=>exact⟨h1,h2⟩
 |more h1 h2=>exact⟨h1,h2⟩
def Hd(d:Nat):∀f,n-f<=d->(∃i,Rch E n f i i)->∃g,Rch E n g g g:=by
 induction d with
 |zero=>rintro f hd ⟨i,h⟩;have:=h.low;omega
 |succ d ih=>
  rintro f hd ⟨i,h⟩
  by_cases ab:∃i,Rch E n (f+1) i i
  ·exact ih (f+1) (by omega) ab
  ·rcases h.up with h'|⟨h1,h2⟩
   ·exact absurd ⟨i,h'⟩ ab
   ·rcases h1 with e|h1
    ·subst e;exact⟨_,h⟩
    ·rcases h2 with e|h2
     ·subst e;exact⟨_,h⟩
     ·exact⟨f,h2.trans h1⟩
def dW(E:Nat->Nat->Bool)(n f j:Nat):Prop:=(j=f/\f<n)\/Rch E n f j f
def yI{f:Nat}:Rch E n f f f<->∃j,E f j=true/\dW E n f j:=by
 constructor
 ·intro h
  cases h with
  |one h1 h2 h3 h4 h5=>exact⟨f,h5,.inl ⟨rfl,h2⟩⟩
  |more h1 h2 h3 h4 h5 h6=>exact⟨_,h5,.inr h6⟩
 ·rintro⟨j,hj,⟨rfl,hn⟩|h⟩
  ·exact .one (No _) hn (No _) hn hj
  ·have hl:=h.low;exact .more (No _) (by omega) hl.1 hl.2 hj h
def Cyc(E:Nat->Nat->Bool)(n:Nat):Prop:=∃f j,f<n/\E f j=true/\dW E n f j
def He:Cyc E n<->∃i,Rch E n 0 i i:=by
 constructor
 ·rintro⟨f,j,hf,hj,hn⟩;have h:=yI.2 ⟨j,hj,hn⟩;have ab:∀{a b:Nat},Rch E n f a b->Rch E n 0 a b:=fun h=>by
   induction h with
   |one h1 h2 h3 h4 h5=>exact .one (Nu _) h2 (Nu _) h4 h5
   |more h1 h2 h3 h4 h5 _ ih=>exact .more (Nu _) h2 (Nu _) h4 h5 ih
  exact⟨f,ab h⟩
 ·intro h;obtain⟨g,hg⟩:=Hd n 0 (by omega) h;obtain⟨j,hj,hn⟩:=yI.1 hg;exact⟨g,j,hg.low.2,hj,hn⟩
def Hf{f:Nat}{K:Nat->Prop}(hf:f<n)(h0:K f)(hs:∀j,K j->dW E n f j)(hc:∀k i,K k->f<=i->i<n->E i k=true->K i)(j:Nat):K j<->dW E n f j:=by
 refine⟨hs j,fun h=>?_⟩;rcases h with⟨rfl,_⟩|h
 ·exact h0
 ·have:∀{a b:Nat},Rch E n f a b->K b->K a:=fun h=>by
   induction h with
   |one h1 h2 h3 h4 h5=>exact fun hb=>hc _ _ hb h1 h2 h5
   |more h1 h2 h3 h4 h5 _ ih=>exact fun hb=>hc _ _ (ih hb) h1 h2 h5
  exact this h h0
def Hg{f i k:Nat}(hk:dW E n f k)(hi:f<=i)(ab:i<n)(h:E i k=true):dW E n f i:=by
 rcases hk with⟨rfl,hf⟩|hk
 ·exact .inr (.one hi ab (No _) hf h)
 ·exact .inr (.more hi ab hk.low.1 hk.low.2 h hk)
inductive Pth(E:Nat->Nat->Bool)(n:Nat):Nat->Nat->Prop
 |zero {j:Nat}:Pth E n 0 j
 |succ {k i j:Nat}:Pth E n k i->i<n->j<n->E i j=true->Pth E n (k+1) j
def tG:∀(n:Nat)(p:Nat->Nat),(∀i,i<=n->p i<n)->∃a b,a<b/\b<=n/\p a=p b
 |0,p,h=>absurd (h 0 (No _)) (by omega)
 |n+1,p,h=>by
  by_cases ac:∃a,a<=n/\p a=p (n+1)
  ·obtain⟨a,ha,e⟩:=ac;exact⟨a,n+1,by omega,No _,e⟩
  ·have ab:∀a,a<=n->p a≠p (n+1):=fun a ha e=>ac ⟨a,ha,e⟩;obtain⟨a,b,ad,hb,e⟩:=tG n (fun i=>if p i=n then p (n+1)else p i) (fun i hi=>by
    have h1:=h i (by omega);have h2:=h (n+1) (by omega);have h3:=ab i hi;split <;> omega)
   refine⟨a,b,ad,by omega,?_⟩;have ha:=ab a (by omega);have hb':=ab b hb;split at e <;> split at e
   ·omega
   ·exact absurd e.symm hb'
   ·exact absurd e ha
   ·exact e
def Pth.fn{k j:Nat}(h:Pth E n k j)(hj:j<n):∃p:Nat->Nat,p k=j/\(∀i,i<=k->p i<n)/\∀i,i<k->E (p i) (p (i+1))=true:=by
 induction h with
 |zero=>exact⟨fun _=>_,rfl,fun _ _=>hj,fun i h=>absurd h (by omega)⟩
 | @succ k i j _ hi ab he ih=>
  obtain⟨p,h1,h2,h3⟩:=ih hi
  refine⟨fun x=>if x<=k then p x else j,by simp;omega,fun x hx=>?_,fun x hx=>?_⟩
  ·show(if x<=k then p x else j)<n
   split
   ·exact h2 x (by assumption)
   ·exact hj
  ·show E (if x<=k then p x else j) (if x+1<=k then p (x+1)else j)=true
   by_cases hx':x<k
   ·rw[if_pos (by omega),if_pos (by omega)];exact h3 x hx'
   ·have:x=k:=by omega
    subst this
    rw[if_pos (No _),if_neg (by omega),h1]
    exact he
def yJ{p:Nat->Nat}:∀(d a:Nat),(∀i,a<=i->i<=a+d+1->p i<n)->(∀i,a<=i->i<a+d+1->E (p i) (p (i+1))=true)->Rch E n 0 (p a) (p (a+d+1))
 |0,a,h1,h2=> .one (Nu _) (h1 a (No _) (by omega)) (Nu _) (h1 _ (by omega) (by omega)) (h2 a (No _) (by omega))
 |d+1,a,h1,h2=>by
  have ih:=yJ d (a+1) (fun i h3 h4=>h1 i (by omega) (by omega)) (fun i h3 h4=>h2 i (by omega) (by omega));have e:a+1+d+1=a+(d+1)+1:=by omega
  rw[e]at ih;exact .more (Nu _) (h1 a (No _) (by omega)) (Nu _) (h1 _ (by omega) (by omega)) (h2 a (No _) (by omega)) ih
def Pth.short{k j:Nat}(hc:¬Cyc E n)(h:Pth E n k j)(hj:j<n):k<n:=by
 refine Decidable.byContradiction fun hk=>hc (He.2 ?_);obtain⟨p,_,h2,h3⟩:=h.fn hj;obtain⟨a,b,ab,hb,e⟩:=tG n p (fun i hi=>h2 i (by omega));have:=yJ (E:=E) (n:=n) (p:=p) (b-a-1) a (fun i _ h5=>h2 i (by omega)) (fun i _ h5=>h3 i (by omega));have e2:a+(b-a-1)+1=b:=by omega
 rw[e2,<-e]at this;exact⟨_,this⟩
structure iq(E:Nat->Nat->Bool)(n:Nat)(l:List Nat):Prop where
 len:l.length=n
 path:∀j x,l[j]? = some x->Pth E n x j
 ge:∀i j x y,i<n->j<n->E i j=true->l[i]? = some x->l[j]? = some y->x<y
def iq.le{l':List Nat}(h':iq E n l'){x j:Nat}(hp:Pth E n x j):∀y,j<n->l'[j]? = some y->x<=y:=by
 induction hp with
 |zero=>exact fun y _ _=>Nu _
 | @succ k i j _ hi hj he ih=>
  intro y _ hy
  obtain⟨z,hz⟩:∃z,l'[i]? = some z:=⟨l'[i]'(by rw[h'.len];exact hi),Nx _⟩
  have h1:=ih z hi hz
  have h2:=h'.ge i j z y hi hj he hz hy
  omega
def iq.unique{l l':List Nat}(h:iq E n l)(h':iq E n l'):l=l':=by
 apply List.ext_getElem?;intro j;by_cases hj:j<n
 ·have e1:=Nx (l:=l) (i:=j) (by rw[h.len];exact hj);have e2:=Nx (l:=l') (i:=j) (by rw[h'.len];exact hj);rw[e1,e2];have h1:=h'.le (h.path j _ e1) _ hj e2;have h2:=h.le (h'.path j _ e2) _ hj e1;congr 1;omega
 ·rw[OJ (by rw[h.len];omega),OJ (by rw[h'.len];omega)]
def mapO{α β:Type}(f:α->Option β):List α->Option (List β)
 |[]=>some []
 |x::l=>match f x with
  |some y=>match mapO f l with
   |some m=>some (y::m)
   |none=>none
  |none=>none
def yK{α β:Type}{f:α->Option β}:∀{l:List α} {m:List β} {x:α} {y:β},mapO f l=some m->f x=some y->mapO f (l++[x])=some (m++[y])
 |[],m,x,y,h,hx=>by cases h;simp[mapO,hx]
 |a::l,m,x,y,h,hx=>by
  simp only[mapO]at h;split at h
  ·rename_i b hb;split at h
   ·rename_i m' hm
    cases h;simp only[MZ,mapO,hb,yK hm hx]
   ·cases h
  ·cases h
def ir{α β:Type}{f:α->Option β}{l:List α}{m:List β}{x:α}{y:β}{k:Nat}(hk:l[k]? = some x)(h:mapO f (l.take k)=some m)(hx:f x=some y):mapO f (l.take (k+1))=some (m++[y]):=by
 rw[Ox,hk];exact yK h hx
def iw{α β:Type}{f:α->Option β}:∀{l:List α} {k:Nat} {x:α},l[k]? = some x->f x=none->mapO f l=none
 |[],_,_,h,_=>by simp at h
 |a::l,0,x,h,hx=>by
  simp only[Oj,Option.some.injEq]at h;subst h;simp only[mapO,hx]
 |a::l,k+1,x,h,hx=>by
  rw[Ok]at h;simp only[mapO,iw h hx];split <;> rfl
def cA{α β:Type}{f:α->Option β}:∀{l:List α} {m:List β},mapO f l=some m->m.length=l.length
 |[],m,h=>by cases h;rfl
 |a::l,m,h=>by
  simp only[mapO]at h;split at h
  ·split at h
   ·rename_i m' hm
    cases h;simp[cA hm]
   ·cases h
  ·cases h
def nR{α β:Type}{f:α->Option β}:∀{l:List α} {m:List β},mapO f l=some m->∀{k:Nat} {x:α},l[k]? = some x->∃y,m[k]? = some y/\f x=some y
 |[],m,h,k,x,hx=>by simp at hx
 |a::l,m,h,k,x,hx=>by
  simp only[mapO]at h;split at h
  ·rename_i b hb;split at h
   ·rename_i m' hm
    cases h
    cases k with
    |zero=>simp only[Oj,Option.some.injEq]at hx;subst hx;exact⟨b,by simp,hb⟩
    |succ k=>rw[Ok]at hx⊢;exact nR hm hx
   ·cases h
  ·cases h
end
end Go.Proofs.YtgbbhcbkldhjiaaGreatDoor
