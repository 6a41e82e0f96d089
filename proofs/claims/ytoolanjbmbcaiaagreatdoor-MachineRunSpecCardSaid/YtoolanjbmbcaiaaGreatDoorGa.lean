/- Contracts of functions that the law reaches, and plain lemmas, texts Pl Na Nb Nc Nd Ne Nf Ng Nh Ni Nj Nk Nl Nm Nn No Np Nq Nr Hr Ns Nt Nv: no condition beyond those that each theorem names. -/
import Derived.Test.YtoolanjbmbcaiaaGreatDoorProg
import Derived.WalkKit
import Derived.WalkSpells
import Derived.Outline
import Derived.Deep.OwnRows
import Derived.Lib.Hide
import Derived.RegionTactic
import Derived.BigRegion
import Derived.BigQuiet
import Derived.Deep.QuietTactic
import Derived.Laws.BitsAllLaws
import Derived.Laws.BitsLemmas
import Derived.Laws.Bits64b
import Derived.OwnWalk
import Derived.Laws.IdiomStrings
import Derived.Laws.BytesArg
import Derived.Maps.AppendAt
import Derived.Shelf.Spec.BitsCarry
import Derived.Deep.RegionHeld3
import Derived.Deep.DrawnRows
import Derived.Deep.RegionWith
import Derived.Lib.Mul64
import Derived.Shelf.Strconv.Itoa0
import Derived.Lib.BitFns
import Derived.Lib.TrailingZeros
import Derived.Lib.ItoaNum
import Derived.Below
import Derived.Laws.OwnMore
import Derived.Deep.AppendLies
import Derived.Deep.Draws
import Derived.Deep.LoopGhost
import Derived.Deep.CutBlock
import Derived.Deep.DeepCutAuto
import Derived.RangeFuncNested
import Derived.RangeFuncBound
import Derived.RangeFuncCalls
import Derived.RangeFuncLeaves
import Derived.OwnWalkIn
import Derived.TacticsInMore
import Derived.LoopNIn
import Derived.LoopIn
import Derived.RangeFuncFrom
import Derived.OrdersIn
import Derived.Laws.CopyOwn
namespace Go.Proofs.YtoolanjbmbcaiaaGreatDoor.Bf

/-- The number of bytes, the least significant first. -/
def lval : List UInt8 → Nat
  | [] => 0
  | c :: t => c.toNat + 256 * lval t

/-- The number of bytes, the most significant first. -/
def bval (l : List UInt8) : Nat := lval l.reverse

theorem lval_append (a b : List UInt8) : lval (a ++ b) = lval a + 256 ^ a.length * lval b := by
  induction a with
  | nil => simp [lval]
  | cons c t ih => simp only [List.cons_append, lval, ih, List.length_cons, Nat.pow_succ, Nat.mul_add]; rw [Nat.mul_comm (256 ^ t.length) 256, Nat.mul_assoc]; omega

theorem lval_lt (l : List UInt8) : lval l < 256 ^ l.length := by
  induction l with
  | nil => simp [lval]
  | cons c t ih =>
    simp only [lval, List.length_cons, Nat.pow_succ]
    have := c.toNat_lt
    omega

theorem bval_nil : bval [] = 0 := rfl
theorem bval_snoc (l : List UInt8) (c : UInt8) : bval (l ++ [c]) = 256 * bval l + c.toNat := by
  simp only [bval, List.reverse_append, List.reverse_cons, List.reverse_nil, List.nil_append, List.cons_append, lval]; omega
theorem bval_lt (l : List UInt8) : bval l < 256 ^ l.length := by
  have := lval_lt l.reverse; simpa [bval] using this
theorem bval_cons (c : UInt8) (l : List UInt8) : bval (c :: l) = c.toNat * 256 ^ l.length + bval l := by
  simp only [bval, List.reverse_cons, lval_append, lval, List.length_reverse]
  rw [Nat.mul_zero, Nat.add_zero, Nat.mul_comm]; omega

/-- The bytes of a number, the most significant first, none for 0; with fuel. -/
def bencF : Nat → Nat → List UInt8
  | 0, _ => []
  | f + 1, n => if n = 0 then [] else bencF f (n / 256) ++ [UInt8.ofNat (n % 256)]

def benc (n : Nat) : List UInt8 := bencF n n

theorem bencF_of_le (n : Nat) : ∀ f g, n ≤ f → n ≤ g → bencF f n = bencF g n := by
  induction n using Nat.strongRecOn with
  | ind n ih =>
    intro f g hf hg
    by_cases h : n = 0
    · subst h; cases f <;> cases g <;> simp [bencF]
    · obtain ⟨f, rfl⟩ : ∃ k, f = k + 1 := ⟨f - 1, by omega⟩
      obtain ⟨g, rfl⟩ : ∃ k, g = k + 1 := ⟨g - 1, by omega⟩
      simp only [bencF, if_neg h]
      rw [ih (n / 256) (by omega) f g (by omega) (by omega)]

theorem benc_zero : benc 0 = [] := rfl
theorem benc_pos {n : Nat} (h : n ≠ 0) : benc n = benc (n / 256) ++ [UInt8.ofNat (n % 256)] := by
  obtain ⟨k, rfl⟩ : ∃ k, n = k + 1 := ⟨n - 1, by omega⟩
  show bencF (k + 1) (k + 1) = _
  rw [bencF, if_neg h]
  unfold benc
  rw [bencF_of_le _ k ((k + 1) / 256) (by omega) (by omega)]

theorem benc_step (x c : Nat) (hc : c < 256) (h : x ≠ 0 ∨ c ≠ 0) : benc (256 * x + c) = benc x ++ [UInt8.ofNat c] := by
  rw [benc_pos (by omega)]
  have h1 : (256 * x + c) / 256 = x := by omega
  have h2 : (256 * x + c) % 256 = c := by omega
  rw [h1, h2]

theorem bval_benc (n : Nat) : bval (benc n) = n := by
  induction n using Nat.strongRecOn with
  | ind n ih =>
    by_cases h : n = 0
    · subst h; rfl
    · rw [benc_pos h, bval_snoc, ih _ (by omega)]
      have : (UInt8.ofNat (n % 256)).toNat = n % 256 := by
        rw [UInt8.toNat_ofNat']; omega
      rw [this]; omega

theorem benc_eq_nil {n : Nat} : benc n = [] ↔ n = 0 := by
  constructor
  · intro h
    have := bval_benc n
    rw [h] at this
    exact this.symm
  · rintro rfl; rfl

/-- Bytes without a zero byte at the beginning. -/
def Canon (l : List UInt8) : Prop := l.head? ≠ some 0
instance (l : List UInt8) : Decidable (Canon l) := inferInstanceAs (Decidable (_ ≠ _))

theorem benc_canon (n : Nat) : Canon (benc n) := by
  induction n using Nat.strongRecOn with
  | ind n ih =>
    by_cases h : n = 0
    · subst h; simp [benc_zero, Canon]
    · rw [benc_pos h]
      by_cases h2 : n / 256 = 0
      · rw [h2, benc_zero]
        simp only [Canon, List.nil_append, List.head?_cons, ne_eq, Option.some.injEq]
        intro e
        have e2 := congrArg UInt8.toNat e
        rw [UInt8.toNat_ofNat'] at e2
        simp at e2
        omega
      · have hne : benc (n / 256) ≠ [] := fun e => h2 (benc_eq_nil.1 e)
        have := ih (n / 256) (by omega)
        unfold Canon at *
        rw [List.head?_append]
        cases hb : benc (n / 256) with
        | nil => exact absurd hb hne
        | cons c t => rw [hb] at this; simpa using this

theorem canon_init {l : List UInt8} {c : UInt8} (h : Canon (l ++ [c])) : Canon l := by
  cases l with
  | nil => simp [Canon]
  | cons d t => simpa [Canon] using h

theorem benc_bval {l : List UInt8} (h : Canon l) : benc (bval l) = l := by
  induction hn : l.length generalizing l with
  | zero => rw [List.eq_nil_of_length_eq_zero hn]; rfl
  | succ k ih =>
    rcases List.eq_nil_or_concat l with rfl | ⟨t, c, rfl⟩
    · simp at hn
    · rw [List.concat_eq_append] at *
      have ht : t.length = k := by simpa using hn
      have hcan := canon_init h
      have iht := ih hcan ht
      rw [bval_snoc]
      have hc : c.toNat < 256 := c.toNat_lt
      rw [benc_step _ _ hc, iht]
      · congr 2
        simp
      · by_cases hb : bval t = 0
        · right
          rw [hb, benc_zero] at iht
          subst iht
          simp only [Canon, List.nil_append, List.head?_cons, ne_eq, Option.some.injEq] at h
          intro e
          apply h
          apply UInt8.toNat_inj.1
          simpa using e
        · exact Or.inl hb

theorem bval_inj {a b : List UInt8} (ha : Canon a) (hb : Canon b) (h : bval a = bval b) : a = b := by
  rw [← benc_bval ha, ← benc_bval hb, h]

theorem benc_inj {a b : Nat} (h : benc a = benc b) : a = b := by rw [← bval_benc a, ← bval_benc b, h]

theorem bval_ge {c : UInt8} {l : List UInt8} (h : Canon (c :: l)) : 256 ^ l.length ≤ bval (c :: l) := by
  rw [bval_cons]
  have : 1 ≤ c.toNat := by
    rcases Nat.eq_zero_or_pos c.toNat with e | e
    · exfalso; apply h; simp; apply UInt8.toNat_inj.1; simpa using e
    · exact e
  have h2 : 1 * 256 ^ l.length ≤ c.toNat * 256 ^ l.length := Nat.mul_le_mul_right _ this
  omega

theorem benc_length_le {n k : Nat} : (benc n).length ≤ k ↔ n < 256 ^ k := by
  constructor
  · intro h
    have h1 := bval_lt (benc n)
    rw [bval_benc] at h1
    exact Nat.lt_of_lt_of_le h1 (Nat.pow_le_pow_right (by omega) h)
  · intro h
    rcases Nat.lt_or_ge k (benc n).length with hlt | hge
    · exfalso
      have hc := benc_canon n
      have hv := bval_benc n
      cases hb : benc n with
      | nil => rw [hb] at hlt; simp at hlt
      | cons c t =>
        rw [hb] at hc hv hlt
        have := bval_ge hc
        rw [hv] at this
        have hk : k ≤ t.length := by simp at hlt; omega
        have := Nat.pow_le_pow_right (n := 256) (by omega) hk
        omega
    · exact hge

theorem bval_pos_iff {l : List UInt8} (h : Canon l) : bval l = 0 ↔ l = [] := by
  constructor
  · intro e
    rw [← benc_bval h, e, benc_zero]
  · rintro rfl; rfl

/-! ### words: a number as 64-bit words, the least significant first -/

/-- The word number j of a number. -/
def word (V j : Nat) : Nat := V / 18446744073709551616 ^ j % 18446744073709551616

/-- The number of the first n words of a function. -/
def nval (f : Nat → Nat) : Nat → Nat
  | 0 => 0
  | n + 1 => nval f n + f n * 18446744073709551616 ^ n

theorem wpow_pos (j : Nat) : 0 < 18446744073709551616 ^ j := Nat.pow_pos (by omega)
theorem wpow_succ (j : Nat) : 18446744073709551616 ^ (j + 1) = 18446744073709551616 * 18446744073709551616 ^ j := by rw [Nat.pow_succ, Nat.mul_comm]

theorem word_lt (V j : Nat) : word V j < 18446744073709551616 := Nat.mod_lt _ (by omega)
theorem word_zero (V : Nat) : word V 0 = V % 18446744073709551616 := by simp [word]
theorem word_succ (V j : Nat) : word V (j + 1) = word (V / 18446744073709551616) j := by
  unfold word; rw [wpow_succ, ← Nat.div_div_eq_div_mul]
theorem word_of_lt {V j : Nat} (h : V < 18446744073709551616 ^ j) : word V j = 0 := by unfold word; rw [Nat.div_eq_of_lt h]
theorem word_eq_div {V j : Nat} (h : V < 18446744073709551616 ^ (j + 1)) : word V j = V / 18446744073709551616 ^ j := by
  unfold word
  rw [Nat.mod_eq_of_lt]
  rw [Nat.div_lt_iff_lt_mul (wpow_pos j)]
  rw [wpow_succ] at h; exact h

theorem nval_lt {f : Nat → Nat} : ∀ {n : Nat}, (∀ j, j < n → f j < 18446744073709551616) → nval f n < 18446744073709551616 ^ n
  | 0, _ => by simp [nval]
  | n + 1, h => by
    have ih := nval_lt (n := n) (fun j hj => h j (by omega))
    have hn := h n (by omega)
    rw [nval, wpow_succ]
    have : (f n + 1) * 18446744073709551616 ^ n ≤ 18446744073709551616 * 18446744073709551616 ^ n := Nat.mul_le_mul_right _ hn
    rw [Nat.add_mul] at this
    omega

theorem nval_congr {f g : Nat → Nat} : ∀ {n : Nat}, (∀ j, j < n → f j = g j) → nval f n = nval g n
  | 0, _ => rfl
  | n + 1, h => by rw [nval, nval, nval_congr (fun j hj => h j (by omega)), h n (by omega)]

theorem nval_word (V : Nat) : ∀ n, nval (word V) n = V % 18446744073709551616 ^ n
  | 0 => by simp [nval, Nat.mod_one]
  | n + 1 => by
    rw [nval, nval_word V n, word, Nat.pow_succ, Nat.mod_mul, Nat.mul_comm (18446744073709551616 ^ n)]

theorem nval_word_lt {V n : Nat} (h : V < 18446744073709551616 ^ n) : nval (word V) n = V := by rw [nval_word, Nat.mod_eq_of_lt h]

theorem word_nval {f : Nat → Nat} : ∀ {n : Nat}, (∀ j, j < n → f j < 18446744073709551616) → ∀ j, j < n → word (nval f n) j = f j
  | 0, _, j, hj => by omega
  | n + 1, h, j, hj => by
    have hl := nval_lt (n := n) (fun j hj => h j (by omega))
    rw [nval]
    by_cases hjn : j = n
    · subst hjn
      unfold word
      rw [Nat.add_mul_div_right _ _ (wpow_pos j), Nat.div_eq_of_lt hl, Nat.zero_add, Nat.mod_eq_of_lt (h j (by omega))]
    · have hlt : j < n := by omega
      have ih := word_nval (n := n) (fun j hj => h j (by omega)) j hlt
      rw [← ih]
      obtain ⟨d, rfl⟩ : ∃ d, n = j + 1 + d := ⟨n - j - 1, by omega⟩
      unfold word
      have e : f (j + 1 + d) * 18446744073709551616 ^ (j + 1 + d) = (f (j + 1 + d) * 18446744073709551616 ^ d * 18446744073709551616) * 18446744073709551616 ^ j := by
        rw [Nat.pow_add, Nat.pow_add]; grind
      rw [e, Nat.add_mul_div_right _ _ (wpow_pos j), Nat.add_mul_mod_self_right]

/-- A function with one value changed. -/
def upd (f : Nat → Nat) (i x : Nat) : Nat → Nat := fun j => if j = i then x else f j
theorem upd_same (f : Nat → Nat) (i x : Nat) : upd f i x i = x := by simp [upd]
theorem upd_other (f : Nat → Nat) {i j : Nat} (x : Nat) (h : j ≠ i) : upd f i x j = f j := by simp [upd, h]
theorem nval_upd_ge (f : Nat → Nat) (i x : Nat) : ∀ n, n ≤ i → nval (upd f i x) n = nval f n := fun n h => nval_congr fun j hj => upd_other f x (by omega)
theorem nval_upd (f : Nat → Nat) (i x : Nat) : ∀ n, i < n → nval (upd f i x) n + f i * 18446744073709551616 ^ i = nval f n + x * 18446744073709551616 ^ i
  | 0, h => by omega
  | n + 1, h => by
    rw [nval, nval]
    by_cases e : i = n
    · subst e
      rw [nval_upd_ge f i x i (Nat.le_refl _), upd_same]; omega
    · have := nval_upd f i x n (by omega)
      rw [upd_other f x (fun h => e h.symm)]; omega

/-! sums -/
theorem plus_step {a b s : Nat → Nat} {i c d : Nat} (h : nval s i + c * 18446744073709551616 ^ i = nval a i + nval b i) (hs : s i + 18446744073709551616 * d = a i + b i + c) :
    nval s (i + 1) + d * 18446744073709551616 ^ (i + 1) = nval a (i + 1) + nval b (i + 1) := by
  simp only [nval, wpow_succ]; grind

/-! differences: d: the borrow -/
theorem minus_step {a b s : Nat → Nat} {i c d : Nat} (h : nval s i + nval b i = nval a i + c * 18446744073709551616 ^ i) (hs : s i + b i + c = a i + 18446744073709551616 * d) :
    nval s (i + 1) + nval b (i + 1) = nval a (i + 1) + d * 18446744073709551616 ^ (i + 1) := by
  simp only [nval, wpow_succ]; grind

/-! top words -/
/-- n words are the trimmed words of a number. -/
def Trim (n V : Nat) : Prop := V < 18446744073709551616 ^ n ∧ (n = 0 ∨ 18446744073709551616 ^ (n - 1) ≤ V)

theorem Trim.zero : Trim 0 0 := ⟨by simp, .inl rfl⟩
theorem trim_zero_iff {n V : Nat} (h : Trim n V) : n = 0 ↔ V = 0 := by
  obtain ⟨h1, h2⟩ := h
  constructor
  · rintro rfl; simpa using h1
  · rintro rfl
    rcases h2 with h2 | h2
    · exact h2
    · have := wpow_pos (n - 1); omega
theorem trim_lt {n m V U : Nat} (h : Trim n V) (h' : Trim m U) (hnm : n < m) : V < U := by
  obtain ⟨h1, _⟩ := h
  obtain ⟨_, h2⟩ := h'
  rcases h2 with h2 | h2
  · omega
  · have := Nat.pow_le_pow_right (n := 18446744073709551616) (by omega) (show n ≤ m - 1 by omega)
    omega
theorem trim_top {n V : Nat} (h : Trim (n + 1) V) : 0 < word V n := by
  obtain ⟨h1, h2⟩ := h
  rw [word_eq_div h1]
  rcases h2 with h2 | h2
  · omega
  · exact Nat.div_pos (by simpa using h2) (wpow_pos n)
theorem trim_of_top {n V : Nat} (h1 : V < 18446744073709551616 ^ (n + 1)) (h2 : word V n ≠ 0) : Trim (n + 1) V := by
  refine ⟨h1, .inr ?_⟩
  rw [word_eq_div h1] at h2
  rcases Nat.lt_or_ge V (18446744073709551616 ^ n) with h | h
  · exact absurd (Nat.div_eq_of_lt h) h2
  · simpa using h
theorem lt_of_top_zero {n V : Nat} (h1 : V < 18446744073709551616 ^ (n + 1)) (h2 : word V n = 0) : V < 18446744073709551616 ^ n := by
  rw [word_eq_div h1] at h2
  rcases Nat.lt_or_ge V (18446744073709551616 ^ n) with h | h
  · exact h
  · have := Nat.div_pos h (wpow_pos n); omega

/-! comparing words from the top: what is above i is equal -/
theorem cmp_eq {V U : Nat} : ∀ {n : Nat}, V < 18446744073709551616 ^ n → U < 18446744073709551616 ^ n → (∀ j, j < n → word V j = word U j) → V = U
  | n, h1, h2, h => by rw [← nval_word_lt h1, ← nval_word_lt h2]; exact nval_congr h
theorem cmp_lt {V U i n : Nat} (h1 : V < 18446744073709551616 ^ n) (h2 : U < 18446744073709551616 ^ n) (hi : i < n) (he : ∀ j, i < j → j < n → word V j = word U j) (hl : word V i < word U i) : V < U := by
  have key : ∀ m, i < m → m ≤ n → nval (word V) m < nval (word U) m := by
    intro m
    induction m with
    | zero => intro h; omega
    | succ m ih =>
      intro him hmn
      rw [nval, nval]
      by_cases e : i = m
      · subst e
        have hb := nval_lt (f := word V) (n := i) (fun j _ => word_lt V j)
        have : (word V i + 1) * 18446744073709551616 ^ i ≤ word U i * 18446744073709551616 ^ i := Nat.mul_le_mul_right _ hl
        rw [Nat.add_mul] at this
        omega
      · have := ih (by omega) (by omega)
        rw [he m (by omega) (by omega)]; omega
  have := key n hi (Nat.le_refl _)
  rwa [nval_word_lt h1, nval_word_lt h2] at this

/-! ### bits of words -/
theorem wpow_two (j : Nat) : 18446744073709551616 ^ j = 2 ^ (64 * j) := by rw [Nat.pow_mul]
theorem bpow_two (j : Nat) : 256 ^ j = 2 ^ (8 * j) := by rw [Nat.pow_mul]

theorem testBit_word (V j b : Nat) : (word V j).testBit b = (decide (b < 64) && V.testBit (64 * j + b)) := by
  unfold word
  rw [show (18446744073709551616 : Nat) = 2 ^ 64 from rfl, ← Nat.pow_mul, Nat.testBit_mod_two_pow, Nat.testBit_div_two_pow, Nat.add_comm]

theorem testBit_add_shift {V c k b : Nat} (h : V < 2 ^ k) : (V + c * 2 ^ k).testBit b = if b < k then V.testBit b else c.testBit (b - k) := by
  rw [Nat.add_comm, Nat.mul_comm, Nat.testBit_two_pow_mul_add c h b]

/-- A further byte, in the words. -/
theorem words_step {V k c : Nat} (hV : V < 256 ^ k) (hc : c < 256) (j : Nat) :
    word (V + c * 256 ^ k) j = if j = k / 8 then word V j ||| (c <<< (8 * (k % 8))) else word V j := by
  rw [bpow_two] at *
  have hcb : ∀ b, 8 ≤ b → c.testBit b = false := fun b hb => Nat.testBit_lt_two_pow (Nat.lt_of_lt_of_le hc (Nat.pow_le_pow_right (n := 2) (by omega) hb))
  have hVb : ∀ b, 8 * k ≤ b → V.testBit b = false := fun b hb => Nat.testBit_lt_two_pow (Nat.lt_of_lt_of_le hV (Nat.pow_le_pow_right (n := 2) (by omega) hb))
  apply Nat.eq_of_testBit_eq
  intro b
  rw [testBit_word, testBit_add_shift hV]
  by_cases hj : j = k / 8
  · rw [if_pos hj, Nat.testBit_or, testBit_word, Nat.testBit_shiftLeft]
    by_cases hb : b < 64
    · by_cases h1 : 64 * j + b < 8 * k
      · have h2 : ¬ b ≥ 8 * (k % 8) := by omega
        simp [hb, h1, h2]
      · have h2 : b ≥ 8 * (k % 8) := by omega
        have h3 : 64 * j + b - 8 * k = b - 8 * (k % 8) := by omega
        rw [hVb _ (by omega)]
        simp [hb, h1, h2, h3]
    · have h2 : c.testBit (b - 8 * (k % 8)) = false := hcb _ (by omega)
      simp [hb, h2]
  · rw [if_neg hj, testBit_word]
    by_cases hb : b < 64
    · by_cases h1 : 64 * j + b < 8 * k
      · simp [hb, h1]
      · have h2 : c.testBit (64 * j + b - 8 * k) = false := hcb _ (by omega)
        rw [hVb _ (by omega)]
        simp [h1, h2]
    · simp [hb]

/-- A byte of a number, out of its words. -/
theorem byte_of_word (V i : Nat) : (word V (i / 8) >>> (8 * (i % 8))) % 256 = V / 256 ^ i % 256 := by
  apply Nat.eq_of_testBit_eq
  intro b
  rw [show (256 : Nat) = 2 ^ 8 from rfl, ← Nat.pow_mul, Nat.testBit_mod_two_pow, Nat.testBit_mod_two_pow, Nat.testBit_shiftRight, testBit_word, Nat.testBit_div_two_pow]
  by_cases hb : b < 8
  · have h1 : 8 * (i % 8) + b < 64 := by omega
    have h2 : 64 * (i / 8) + (8 * (i % 8) + b) = b + 8 * i := by omega
    simp [hb, h1, h2]
  · simp [hb]

/-- A word of a number that is divided by a power of 2. -/
theorem shift_word (V by_ i : Nat) : word (V / 2 ^ by_) i = (word V (i + by_ / 64) >>> (by_ % 64)) ||| ((word V (i + by_ / 64 + 1) <<< (64 - by_ % 64)) % 18446744073709551616) := by
  apply Nat.eq_of_testBit_eq
  intro b
  rw [show (18446744073709551616 : Nat) = 2 ^ 64 from rfl, Nat.testBit_or, Nat.testBit_mod_two_pow, Nat.testBit_shiftRight, Nat.testBit_shiftLeft, testBit_word, testBit_word, testBit_word, Nat.testBit_div_two_pow]
  by_cases hb : b < 64
  · by_cases h1 : by_ % 64 + b < 64
    · have h2 : 64 * (i + by_ / 64) + (by_ % 64 + b) = 64 * i + b + by_ := by omega
      have h3 : ¬ b ≥ 64 - by_ % 64 := by omega
      simp only [hb, h1, h2, decide_true, Bool.true_and, h3, decide_false, Bool.false_and, Bool.or_false]
    · have h2 : b ≥ 64 - by_ % 64 := by omega
      have h3 : 64 * (i + by_ / 64 + 1) + (b - (64 - by_ % 64)) = 64 * i + b + by_ := by omega
      have h4 : b - (64 - by_ % 64) < 64 := by omega
      simp only [hb, h1, h2, h3, h4, decide_true, Bool.true_and, decide_false, Bool.false_and, Bool.false_or]
  · have h1 : ¬ by_ % 64 + b < 64 := by omega
    simp [hb, h1]

/-! ### products -/
theorem times_inner {s b : Nat → Nat} {N i j x S high s' high' : Nat} (hj : i + j < N)
    (h : nval s N + high * 18446744073709551616 ^ (i + j) = S + x * nval b j * 18446744073709551616 ^ i)
    (hs : s' + high' * 18446744073709551616 = x * b j + s (i + j) + high) :
    nval (upd s (i + j) s') N + high' * 18446744073709551616 ^ (i + (j + 1)) = S + x * nval b (j + 1) * 18446744073709551616 ^ i := by
  have h1 := nval_upd s (i + j) s' N hj
  have h2 : 18446744073709551616 ^ (i + (j + 1)) = 18446744073709551616 * 18446744073709551616 ^ (i + j) := by rw [← Nat.add_assoc, wpow_succ]
  have h3 : 18446744073709551616 ^ (i + j) = 18446744073709551616 ^ i * 18446744073709551616 ^ j := Nat.pow_add _ _ _
  rw [h2, nval]
  rw [h3] at h h1 ⊢
  grind

theorem times_outer {s a : Nat → Nat} {N i m B high : Nat} (hm : i + m < N) (hz : s (i + m) = 0)
    (h : nval s N + high * 18446744073709551616 ^ (i + m) = nval a i * B + a i * B * 18446744073709551616 ^ i) :
    nval (upd s (i + m) high) N = nval a (i + 1) * B := by
  have h1 := nval_upd s (i + m) high N hm
  rw [hz] at h1
  rw [nval]
  grind

/-! ### division by a word, from the top -/
theorem div_word_step {V b i : Nat} (hb : 0 < b) :
    ((V / 18446744073709551616 ^ (i + 1)) % b * 18446744073709551616 + word V i) / b = word (V / b) i ∧
    ((V / 18446744073709551616 ^ (i + 1)) % b * 18446744073709551616 + word V i) % b = (V / 18446744073709551616 ^ i) % b := by
  have hT : V / 18446744073709551616 ^ i = V / 18446744073709551616 ^ (i + 1) * 18446744073709551616 + word V i := by
    unfold word
    rw [Nat.pow_succ, ← Nat.div_div_eq_div_mul]
    omega
  have hw := word_lt V i
  generalize word V i = a at *
  generalize hX : V / 18446744073709551616 ^ (i + 1) = X at *
  have hdiv : word (V / b) i = (V / 18446744073709551616 ^ i / b) % 18446744073709551616 := by
    unfold word
    rw [Nat.div_div_eq_div_mul, Nat.mul_comm, ← Nat.div_div_eq_div_mul]
  rw [hdiv, hT]
  have e : X * 18446744073709551616 + a = (X % b * 18446744073709551616 + a) + b * (X / b * 18446744073709551616) := by
    have := Nat.div_add_mod X b
    grind
  rw [e, Nat.add_mul_div_left _ _ hb, Nat.add_mul_mod_self_left]
  refine ⟨?_, rfl⟩
  have hlt : (X % b * 18446744073709551616 + a) / b < 18446744073709551616 := by
    rw [Nat.div_lt_iff_lt_mul hb]
    have h1 : X % b + 1 ≤ b := Nat.mod_lt _ hb
    have h2 : (X % b + 1) * 18446744073709551616 ≤ b * 18446744073709551616 := Nat.mul_le_mul_right _ h1
    omega
  rw [Nat.add_mul_mod_self_right, Nat.mod_eq_of_lt hlt]

/-! ### division bit by bit, from the top -/
theorem div_bit_step {V b i : Nat} (hb : 0 < b) :
    (if b ≤ 2 * ((V / 2 ^ (i + 1)) % b) + V / 2 ^ i % 2 then
      2 * ((V / 2 ^ (i + 1)) % b) + V / 2 ^ i % 2 - b = (V / 2 ^ i) % b ∧ V / b / 2 ^ i = 2 * (V / b / 2 ^ (i + 1)) + 1
    else 2 * ((V / 2 ^ (i + 1)) % b) + V / 2 ^ i % 2 = (V / 2 ^ i) % b ∧ V / b / 2 ^ i = 2 * (V / b / 2 ^ (i + 1))) := by
  have hT : V / 2 ^ i = V / 2 ^ (i + 1) * 2 + V / 2 ^ i % 2 := by
    rw [Nat.pow_succ, ← Nat.div_div_eq_div_mul]; omega
  have hd : ∀ k, V / b / 2 ^ k = V / 2 ^ k / b := fun k => by rw [Nat.div_div_eq_div_mul, Nat.mul_comm, ← Nat.div_div_eq_div_mul]
  rw [hd, hd]
  have ht : V / 2 ^ i % 2 < 2 := Nat.mod_lt _ (by omega)
  generalize V / 2 ^ i % 2 = t at *
  generalize V / 2 ^ (i + 1) = X at *
  generalize V / 2 ^ i = Y at *
  subst hT
  have hX := Nat.div_add_mod X b
  have hr := Nat.mod_lt X hb
  generalize X / b = Q at *
  generalize X % b = R at *
  have e : X * 2 + t = (2 * R + t) + b * (2 * Q) := by grind
  rw [e]
  by_cases hc : b ≤ 2 * R + t
  · rw [if_pos hc]
    have e2 : 2 * R + t + b * (2 * Q) = (2 * R + t - b) + b * (2 * Q + 1) := by
      rw [Nat.mul_add]; omega
    rw [e2, Nat.add_mul_div_left _ _ hb, Nat.add_mul_mod_self_left, Nat.mod_eq_of_lt (by omega), Nat.div_eq_of_lt (by omega)]
    omega
  · rw [if_neg hc, Nat.add_mul_div_left _ _ hb, Nat.add_mul_mod_self_left, Nat.mod_eq_of_lt (by omega), Nat.div_eq_of_lt (by omega)]
    omega

/-! ### the greatest common divisor -/
theorem odd_gcd_two_pow {a b k : Nat} (ha : a % 2 = 1) : Nat.gcd a (2 ^ k * b) = Nat.gcd a b := by
  apply Nat.Coprime.gcd_mul_left_cancel_right
  apply Nat.Coprime.pow_left
  unfold Nat.Coprime
  rw [Nat.gcd_rec]
  simp [ha]

theorem gcd_two_pows {a b i j : Nat} (ha : a % 2 = 1) (hb : b % 2 = 1) : Nat.gcd (2 ^ i * a) (2 ^ j * b) = 2 ^ min i j * Nat.gcd a b := by
  rcases Nat.le_total i j with h | h
  · obtain ⟨d, rfl⟩ : ∃ d, j = i + d := ⟨j - i, by omega⟩
    rw [Nat.min_eq_left h, Nat.pow_add, Nat.mul_assoc, Nat.gcd_mul_left, odd_gcd_two_pow ha]
  · obtain ⟨d, rfl⟩ : ∃ d, i = j + d := ⟨i - j, by omega⟩
    rw [Nat.min_eq_right h, Nat.pow_add, Nat.mul_assoc, Nat.gcd_mul_left, Nat.gcd_comm, odd_gcd_two_pow hb, Nat.gcd_comm]

theorem gcd_sub_step {a b : Nat} (h : b ≤ a) : Nat.gcd (a - b) b = Nat.gcd a b := Nat.gcd_sub_self_left h

/-- How often 2 divides a number (0 for 0), with fuel. -/
def tzF : Nat → Nat → Nat
  | 0, _ => 0
  | f + 1, n => if n % 2 = 1 then 0 else 1 + tzF f (n / 2)
def tz (n : Nat) : Nat := tzF n n

theorem tzF_spec : ∀ f n, 0 < n → n ≤ f → 2 ^ tzF f n * (n / 2 ^ tzF f n) = n ∧ (n / 2 ^ tzF f n) % 2 = 1
  | 0, n, h, hf => by omega
  | f + 1, n, h, hf => by
    rw [tzF]
    split
    · rename_i ho; simp [ho]
    · rename_i ho
      have ih := tzF_spec f (n / 2) (by omega) (by omega)
      rw [Nat.pow_add, Nat.pow_one, ← Nat.div_div_eq_div_mul]
      refine ⟨?_, ih.2⟩
      rw [Nat.mul_assoc, ih.1]; omega
theorem tz_spec {n : Nat} (h : 0 < n) : 2 ^ tz n * (n / 2 ^ tz n) = n ∧ (n / 2 ^ tz n) % 2 = 1 := tzF_spec n n h (Nat.le_refl _)
theorem tz_unique {n k m : Nat} (h : n = 2 ^ k * m) (hm : m % 2 = 1) : tz n = k := by
  have h2 : 0 < 2 ^ k := Nat.pow_pos (by omega)
  have hn : 0 < n := by rw [h]; exact Nat.mul_pos h2 (by omega)
  obtain ⟨e, o⟩ := tz_spec hn
  generalize n / 2 ^ tz n = q at *
  generalize tz n = t at *
  rw [h] at e
  rcases Nat.lt_trichotomy t k with hlt | heq | hgt
  · obtain ⟨d, rfl⟩ : ∃ d, k = t + 1 + d := ⟨k - t - 1, by omega⟩
    have : 2 ^ t * q = 2 ^ t * (2 * (2 ^ d * m)) := by rw [e, Nat.pow_add, Nat.pow_add]; grind
    have := Nat.eq_of_mul_eq_mul_left (Nat.pow_pos (by omega)) this
    omega
  · exact heq
  · obtain ⟨d, rfl⟩ : ∃ d, t = k + 1 + d := ⟨t - k - 1, by omega⟩
    have : 2 ^ k * m = 2 ^ k * (2 * (2 ^ d * q)) := by rw [← e, Nat.pow_add, Nat.pow_add]; grind
    have := Nat.eq_of_mul_eq_mul_left h2 this
    omega

/-! ### bits.Div64: a digit of the quotient is guessed, and lowered -/
/-- The guess q with its rest r is not too low. -/
def Guess (u d y1 y0 q r : Nat) : Prop := u = q * y1 + r ∧ (u * 4294967296 + d) / (y1 * 4294967296 + y0) ≤ q

theorem guess_start {u d y1 y0 : Nat} (h1 : 0 < y1) (hd : d < 4294967296) : Guess u d y1 y0 (u / y1) (u % y1) := by
  refine ⟨by rw [Nat.mul_comm]; exact (Nat.div_add_mod u y1).symm, ?_⟩
  have h2 : (u * 4294967296 + d) / (y1 * 4294967296 + y0) ≤ (u * 4294967296 + d) / (y1 * 4294967296) := Nat.div_le_div_left (by omega) (by omega)
  have h3 : (u * 4294967296 + d) / (y1 * 4294967296) = u / y1 := by
    rw [Nat.mul_comm y1, ← Nat.div_div_eq_div_mul]; congr 1; omega
  omega

/-- Where the guess is too high it is lowered. -/
theorem guess_high {u d y1 y0 q r : Nat} (hu : u < y1 * 4294967296 + y0) (hd : d < 4294967296) (h : Guess u d y1 y0 q r)
    (ht : 4294967296 ≤ q ∨ 4294967296 * r + d < q * y0) : 1 ≤ q ∧ Guess u d y1 y0 (q - 1) (r + y1) := by
  obtain ⟨h2, h3⟩ := h
  have hQ : (u * 4294967296 + d) / (y1 * 4294967296 + y0) < q := by
    rcases ht with ht | ht
    · have : (u * 4294967296 + d) / (y1 * 4294967296 + y0) < 4294967296 := by
        rw [Nat.div_lt_iff_lt_mul (by omega)]
        have : (u + 1) * 4294967296 ≤ (y1 * 4294967296 + y0) * 4294967296 := Nat.mul_le_mul_right _ hu
        omega
      omega
    · rw [Nat.div_lt_iff_lt_mul (by omega), h2]
      grind
  have hq : 1 ≤ q := Nat.lt_of_le_of_lt (Nat.zero_le _) hQ
  refine ⟨hq, ?_, Nat.le_sub_one_of_lt hQ⟩
  obtain ⟨k, rfl⟩ : ∃ k, q = k + 1 := ⟨q - 1, (Nat.sub_add_cancel hq).symm⟩
  rw [h2]; simp only [Nat.add_sub_cancel]; grind

/-- Where it is not too high, it is the digit. -/
theorem guess_right {u d y1 y0 q r : Nat} (h1 : 0 < y1) (h : Guess u d y1 y0 q r) (ht : q * y0 ≤ 4294967296 * r + d) :
    q = (u * 4294967296 + d) / (y1 * 4294967296 + y0) ∧ u * 4294967296 + d - q * (y1 * 4294967296 + y0) = (u * 4294967296 + d) % (y1 * 4294967296 + y0) ∧ q * (y1 * 4294967296 + y0) ≤ u * 4294967296 + d := by
  obtain ⟨h2, h3⟩ := h
  have h4 : q * (y1 * 4294967296 + y0) ≤ u * 4294967296 + d := by rw [h2]; grind
  have h5 : q ≤ (u * 4294967296 + d) / (y1 * 4294967296 + y0) := (Nat.le_div_iff_mul_le (by omega)).2 h4
  have h6 : q = (u * 4294967296 + d) / (y1 * 4294967296 + y0) := by omega
  refine ⟨h6, ?_, h4⟩
  have := Nat.div_add_mod (u * 4294967296 + d) (y1 * 4294967296 + y0)
  rw [← h6, Nat.mul_comm] at this
  omega

theorem guess_start_le {u y1 y0 : Nat} (h1 : 2147483648 ≤ y1) (h0 : y0 < 4294967296) (hu : u < y1 * 4294967296 + y0) : u / y1 ≤ 4294967297 := by
  have : u / y1 < 4294967298 := by rw [Nat.div_lt_iff_lt_mul (by omega)]; omega
  omega

/-- Both digits: the quotient and the remainder of two words. -/
theorem two_digits {X un0 Y : Nat} (hY : 0 < Y) :
    (X % Y * 4294967296 + un0) / Y + 4294967296 * (X / Y) = (X * 4294967296 + un0) / Y ∧ (X % Y * 4294967296 + un0) % Y = (X * 4294967296 + un0) % Y := by
  have e : X * 4294967296 + un0 = (X % Y * 4294967296 + un0) + Y * (4294967296 * (X / Y)) := by
    have h := Nat.div_add_mod X Y
    grind
  refine ⟨?_, ?_⟩
  · rw [e, Nat.add_mul_div_left _ _ hY]
  · rw [e, Nat.add_mul_mod_self_left]

theorem div_shifted {N y s : Nat} : N * 2 ^ s / (y * 2 ^ s) = N / y ∧ N * 2 ^ s % (y * 2 ^ s) / 2 ^ s = N % y := by
  have h : 0 < 2 ^ s := Nat.pow_pos (by omega)
  refine ⟨Nat.mul_div_mul_right _ _ h, ?_⟩
  rw [Nat.mul_mod_mul_right, Nat.mul_div_cancel _ h]

/-! ### how many words a number has -/
def wlen (V : Nat) : Nat := if V = 0 then 0 else V.log2 / 64 + 1
theorem wlen_trim (V : Nat) : Trim (wlen V) V := by
  unfold wlen
  by_cases h : V = 0
  · subst h; simp only [if_true]; exact Trim.zero
  · rw [if_neg h]
    have h1 := Nat.lt_log2_self (n := V)
    have h2 := Nat.log2_self_le h
    refine ⟨?_, .inr ?_⟩
    · rw [wpow_two]; exact Nat.lt_of_lt_of_le h1 (Nat.pow_le_pow_right (by omega) (by omega))
    · rw [wpow_two]; exact Nat.le_trans (Nat.pow_le_pow_right (by omega) (by omega)) h2
theorem trim_unique {n m V : Nat} (h : Trim n V) (h' : Trim m V) : n = m := by
  rcases Nat.lt_trichotomy n m with hl | he | hg
  · exact absurd (trim_lt h h' hl) (Nat.lt_irrefl _)
  · exact he
  · exact absurd (trim_lt h' h hg) (Nat.lt_irrefl _)
theorem wlen_of_trim {n V : Nat} (h : Trim n V) : wlen V = n := trim_unique (wlen_trim V) h
theorem wlen_le {n V : Nat} (h : V < 18446744073709551616 ^ n) : wlen V ≤ n := by
  rcases Nat.lt_or_ge n (wlen V) with hl | hg
  · exfalso
    obtain ⟨_, h2⟩ := wlen_trim V
    rcases h2 with h2 | h2
    · omega
    · have := Nat.pow_le_pow_right (n := 18446744073709551616) (by omega) (show n ≤ wlen V - 1 by omega)
      omega
  · exact hg

/-! ### a difference, word by word -/
def bor (V U k : Nat) : Nat := if V % 18446744073709551616 ^ k < U % 18446744073709551616 ^ k then 1 else 0
theorem bor_zero (V U : Nat) : bor V U 0 = 0 := by simp [bor, Nat.mod_one]
theorem bor_le (V U k : Nat) : bor V U k ≤ 1 := by unfold bor; split <;> omega
theorem mod_wpow_succ (V k : Nat) : V % 18446744073709551616 ^ (k + 1) = V % 18446744073709551616 ^ k + 18446744073709551616 ^ k * word V k := by
  rw [Nat.pow_succ, Nat.mod_mul]; rfl

theorem sub_bor (V U k : Nat) : bor V U (k + 1) = if word V k < word U k + bor V U k then 1 else 0 := by
  have hp := wpow_pos k
  have h1 := Nat.mod_lt V hp
  have h2 := Nat.mod_lt U hp
  unfold bor
  rw [mod_wpow_succ, mod_wpow_succ]
  generalize 18446744073709551616 ^ k = P at *
  generalize V % P = a at *
  generalize U % P = b at *
  generalize word V k = v at *
  generalize word U k = u at *
  by_cases hab : a < b
  · rw [if_pos hab]
    by_cases hvu : v < u + 1
    · rw [if_pos hvu]
      have : P * v ≤ P * u := Nat.mul_le_mul_left _ (by omega)
      rw [if_pos (by omega)]
    · rw [if_neg hvu]
      have : P * (u + 1) ≤ P * v := Nat.mul_le_mul_left _ (by omega)
      rw [Nat.mul_add] at this
      rw [if_neg (by omega)]
  · rw [if_neg hab]
    by_cases hvu : v < u
    · rw [if_pos (by omega : v < u + 0)]
      have : P * (v + 1) ≤ P * u := Nat.mul_le_mul_left _ (by omega)
      rw [Nat.mul_add] at this
      rw [if_pos (by omega)]
    · rw [if_neg (by omega : ¬ v < u + 0)]
      have : P * u ≤ P * v := Nat.mul_le_mul_left _ (by omega)
      rw [if_neg (by omega)]

theorem sub_word {V U : Nat} (h : U ≤ V) (k : Nat) : (word V k + 18446744073709551616 - word U k - bor V U k) % 18446744073709551616 = word (V - U) k := by
  have hp := wpow_pos k
  have e1 := Nat.div_add_mod V (18446744073709551616 ^ k)
  have e2 := Nat.div_add_mod U (18446744073709551616 ^ k)
  have l1 := Nat.mod_lt V hp
  have l2 := Nat.mod_lt U hp
  unfold bor word
  generalize 18446744073709551616 ^ k = P at *
  generalize V % P = a at *
  generalize U % P = b at *
  have hd : (V - U) / P = V / P - U / P - (if a < b then 1 else 0) := by
    generalize V / P = x at *
    generalize U / P = y at *
    have hyx : y + (if a < b then 1 else 0) ≤ x := by
      rcases Nat.lt_or_ge x (y + (if a < b then 1 else 0)) with hlt | hge
      · exfalso
        by_cases hab : a < b
        · rw [if_pos hab] at hlt
          have : P * x ≤ P * y := Nat.mul_le_mul_left _ (by omega)
          omega
        · rw [if_neg hab] at hlt
          have : P * (x + 1) ≤ P * y := Nat.mul_le_mul_left _ (by omega)
          rw [Nat.mul_add] at this
          omega
      · exact hge
    by_cases hab : a < b
    · rw [if_pos hab] at *
      obtain ⟨t, rfl⟩ : ∃ t, x = y + 1 + t := ⟨x - y - 1, by omega⟩
      have : V - U = P * t + (P + a - b) := by rw [← e1, ← e2, Nat.mul_add, Nat.mul_add]; omega
      rw [this, Nat.mul_add_div (by omega), Nat.div_eq_of_lt (by omega)]; omega
    · rw [if_neg hab] at *
      obtain ⟨t, rfl⟩ : ∃ t, x = y + t := ⟨x - y, by omega⟩
      have : V - U = P * t + (a - b) := by rw [← e1, ← e2, Nat.mul_add]; omega
      rw [this, Nat.mul_add_div (by omega), Nat.div_eq_of_lt (by omega)]; omega
  have hyx : U / P + (if a < b then 1 else 0) ≤ V / P := by
    rcases Nat.lt_or_ge (V / P) (U / P + (if a < b then 1 else 0)) with hlt | hge
    · exfalso
      by_cases hab : a < b
      · rw [if_pos hab] at hlt
        have : P * (V / P) ≤ P * (U / P) := Nat.mul_le_mul_left _ (by omega)
        omega
      · rw [if_neg hab] at hlt
        have : P * (V / P + 1) ≤ P * (U / P) := Nat.mul_le_mul_left _ (by omega)
        rw [Nat.mul_add] at this
        omega
    · exact hge
  rw [hd]
  have hq : (if a < b then 1 else 0) ≤ 1 := by split <;> omega
  generalize (if a < b then 1 else 0) = q at *
  generalize V / P = x at *
  generalize U / P = y at *
  omega

/-! ### trailing zeros and bits of words -/
theorem mod_wpow_zero {V : Nat} : ∀ {j : Nat}, (∀ i, i < j → word V i = 0) → V % 18446744073709551616 ^ j = 0
  | 0, _ => by simp [Nat.mod_one]
  | j + 1, h => by rw [mod_wpow_succ, mod_wpow_zero (fun i hi => h i (by omega)), h j (by omega), Nat.mul_zero]

theorem tz_words {V j : Nat} (hz : ∀ i, i < j → word V i = 0) (hj : word V j ≠ 0) : tz V = 64 * j + tz (word V j) := by
  obtain ⟨e, o⟩ := tz_spec (n := word V j) (by omega)
  have hlt := word_lt V j
  generalize hm : word V j / 2 ^ tz (word V j) = m at *
  generalize htt : tz (word V j) = t at *
  have ht : t < 64 := by
    rcases Nat.lt_or_ge t 64 with h | h
    · exact h
    · exfalso
      have h1 : 2 ^ 64 ≤ 2 ^ t := Nat.pow_le_pow_right (by omega) h
      have h2 : 2 ^ t * 1 ≤ 2 ^ t * m := Nat.mul_le_mul_left _ (by omega)
      omega
  have hV := Nat.div_add_mod V (18446744073709551616 ^ j)
  rw [mod_wpow_zero hz, Nat.add_zero] at hV
  have hq : V / 18446744073709551616 ^ j = 18446744073709551616 * (V / 18446744073709551616 ^ j / 18446744073709551616) + word V j := by
    unfold word; omega
  generalize V / 18446744073709551616 ^ j / 18446744073709551616 = q at *
  apply tz_unique (m := 2 * (2 ^ (63 - t) * q) + m) _ (by omega)
  rw [← hV, hq, ← e, wpow_two, Nat.pow_add]
  have h64 : (18446744073709551616 : Nat) = 2 ^ t * (2 * 2 ^ (63 - t)) := by
    rw [← Nat.pow_succ', ← Nat.pow_add, show t + (63 - t).succ = 64 from by omega]
  rw [h64]
  grind

def nbits (V : Nat) : Nat := if V = 0 then 0 else V.log2 + 1
theorem nbits_bounds {V : Nat} (h : V ≠ 0) : 1 ≤ nbits V ∧ 2 ^ (nbits V - 1) ≤ V ∧ V < 2 ^ nbits V := by
  unfold nbits
  rw [if_neg h]
  exact ⟨by omega, by simpa using Nat.log2_self_le h, Nat.lt_log2_self⟩
theorem nbits_unique {V L : Nat} (h1 : 1 ≤ L) (h2 : 2 ^ (L - 1) ≤ V) (h3 : V < 2 ^ L) : nbits V = L := by
  have h0 : V ≠ 0 := by have : 0 < 2 ^ (L - 1) := Nat.pow_pos (by omega); omega
  obtain ⟨a, b, c⟩ := nbits_bounds h0
  rcases Nat.lt_trichotomy (nbits V) L with h | h | h
  · have := Nat.pow_le_pow_right (n := 2) (by omega) (show nbits V ≤ L - 1 by omega); omega
  · exact h
  · have := Nat.pow_le_pow_right (n := 2) (by omega) (show L ≤ nbits V - 1 by omega); omega
theorem nbits_top {n V L : Nat} (h : V < 18446744073709551616 ^ (n + 1)) (h1 : 1 ≤ L) (h2 : 2 ^ (L - 1) ≤ word V n) (h3 : word V n < 2 ^ L) : nbits V = 64 * n + L := by
  rw [word_eq_div h] at *
  have hp := wpow_pos n
  apply nbits_unique (by omega)
  · rw [show 64 * n + L - 1 = 64 * n + (L - 1) from by omega, Nat.pow_add, ← wpow_two, Nat.mul_comm]
    exact (Nat.le_div_iff_mul_le hp).1 h2
  · rw [Nat.pow_add, ← wpow_two, Nat.mul_comm]
    exact (Nat.div_lt_iff_lt_mul hp).1 h3
theorem nbits_le {V n : Nat} (h : V < 2 ^ n) : nbits V ≤ n := by
  by_cases h0 : V = 0
  · simp [nbits, h0]
  · obtain ⟨a, b, _⟩ := nbits_bounds h0
    rcases Nat.lt_or_ge n (nbits V) with hl | hg
    · have := Nat.pow_le_pow_right (n := 2) (by omega) (show n ≤ nbits V - 1 by omega); omega
    · exact hg

theorem tz_le {x : Nat} (h0 : x ≠ 0) (h : x < 18446744073709551616) : tz x ≤ 64 := by
  obtain ⟨e, o⟩ := tz_spec (n := x) (by omega)
  generalize x / 2 ^ tz x = m at *
  generalize tz x = t at *
  rcases Nat.lt_or_ge 64 t with h | h
  · exfalso
    have h1 : 2 ^ 64 ≤ 2 ^ t := Nat.pow_le_pow_right (by omega) (by omega)
    have h2 : 2 ^ t * 1 ≤ 2 ^ t * m := Nat.mul_le_mul_left _ (by omega)
    omega
  · exact h

end Go.Proofs.YtoolanjbmbcaiaaGreatDoor.Bf
namespace Go.Proofs.YtoolanjbmbcaiaaGreatDoor
open Go.RowKit Bf

/-- The cells of block b from 0 on hold the n words of V. -/
def Wds (w : World) (b n V : Nat) : Prop := ∀ j, j < n → w.cell? ⟨b, j, none⟩ = some (.int .u64 (word V j : Int))
/-- Block b is a row of words, none frozen; the first N of them are f. -/
def Row (w : World) (b N : Nat) (f : Nat → Nat) : Prop := ∃ cur : Array Value, w.heap[b]? = some (.cells cur 131 (0, 0)) ∧ N ≤ cur.size ∧ ∀ i, i < N → cur[i]? = some (.int .u64 (f i : Int))

section
variable {w w' : World} {b N : Nat} {f g : Nat → Nat}
theorem Row.lt (h : Row w b N f) : b < w.heap.size := by
  obtain ⟨cur, h1, _⟩ := h
  rcases Nat.lt_or_ge b w.heap.size with hl | hg
  · exact hl
  · rw [Array.getElem?_eq_none hg] at h1; cases h1
theorem Row.cell (h : Row w b N f) {i : Nat} (hi : i < N) : w.cell? ⟨b, i, none⟩ = some (.int .u64 (f i : Int)) := by
  obtain ⟨cur, h1, _, h3⟩ := h
  simp [World.cell?, h1, h3 i hi]
theorem Row.frozen (h : Row w b N f) (i : Nat) : w.frozen? ⟨b, i, none⟩ = false := by
  obtain ⟨cur, h1, _⟩ := h
  simp [World.frozen?, h1]
theorem Row.congr (h : Row w b N f) (e : ∀ i, i < N → f i = g i) : Row w b N g := by
  obtain ⟨cur, h1, h2, h3⟩ := h
  exact ⟨cur, h1, h2, fun i hi => by rw [h3 i hi, e i hi]⟩
theorem Row.less {M : Nat} (h : Row w b N f) (hM : M ≤ N) : Row w b M f := by
  obtain ⟨cur, h1, h2, h3⟩ := h
  exact ⟨cur, h1, by omega, fun i hi => h3 i (by omega)⟩
theorem Row.of_block (h : Row w b N f) (e : w'.heap[b]? = w.heap[b]?) : Row w' b N f := by
  obtain ⟨cur, h1, h2, h3⟩ := h
  exact ⟨cur, e.trans h1, h2, h3⟩
theorem Row.drew (h : Row w b N f) : Row w.drew b N f := h
theorem Row.drewN (h : Row w b N f) (n : Nat) : Row (w.drewN n) b N f := h
theorem Row.below {B : Nat} (h : Row w b N f) (hb : Below B w w') (hB : b < B) : Row w' b N f := h.of_block (hb.block b hB)
theorem Row.grown {row : Option Nat} (h : Row w b N f) (hg : w.grownBy w' row) (hr : some b ≠ row) : Row w' b N f := h.of_block (hg.block b h.lt hr)
theorem Row.set (h : Row w b N f) (i : Nat) {x : Nat} (v : Int) (hv : v = (x : Int)) : Row (w.setCell ⟨b, i, none⟩ (.int .u64 v)) b N (fun j => if j = i then x else f j) := by
  subst hv
  obtain ⟨cur, h1, h2, h3⟩ := h
  refine ⟨cur.setIfInBounds i (.int .u64 (x : Int)), ?_, by simpa using h2, fun j hj => ?_⟩
  · simp [World.setCell, Array.getElem?_modify, h1]
  · rw [Array.getElem?_setIfInBounds]
    by_cases e : i = j
    · subst e; simp; omega
    · have e' : ¬ j = i := fun h => e h.symm
      simp only [if_neg e, if_neg e']; exact h3 j hj
theorem Row.of_rowIs (h : w.rowIs b 131 N (fun j => .int .u64 (f j : Int))) : Row w b N f := by
  obtain ⟨cur, h1, h2, h3⟩ := h
  exact ⟨cur, h1, by omega, h3⟩
end
def lenOf : Value → Nat | .slice _ n _ => n | _ => 0

theorem run_index_str {P : Program} {t : TypeId} (h : P.underlying t = some .string) (s : ByteArray) (i : Nat) (z : Int) (hz : z = (i : Int)) (hi : i < s.size) (W : World) :
    (Instr.index t (.string s) (.int .i64 z)).run P W = .ok (.int .u8 (s[i]'hi).toNat) W := by
  subst hz
  have hx : s[i]? = some (s[i]'hi) := by simp
  simp [Instr.index, run_underlying h, asIntOf, hx]

theorem Row.wds {w : World} {b n V : Nat} (h : Row w b n (word V)) : Wds w b n V := fun _ hj => h.cell hj

set_option maxHeartbeats 400000 in
theorem trim_any (b n c V : Nat) (w : World) (hV : V < 18446744073709551616 ^ n) (hn : n ≤ 9223372036854775807) (hc : n ≤ c) (h : Wds w b n V) :
    Calls Tryz.prog 135 #[.slice (some ⟨b, 0, none⟩) n c] w fun e w' => e = .returned (.slice (some ⟨b, 0, none⟩) (wlen V) c) ∧ w = w' := by
  have HV := Lib.hid hV
  have H := Lib.hid h
  clear h hV
  go_enter Tryz.func135, Tryz.ntmps135
  go_wp2
  go_loop [0] (fun t => ∃ k : Nat, k ≤ n ∧ Hid (V < 18446744073709551616 ^ k) ∧ t = .slice (some ⟨b, 0, none⟩) k c) (fun t => lenOf t)
  case atStart => exact ⟨n, Nat.le_refl _, HV, rfl⟩
  case round =>
    obtain ⟨k, hk, HVk, rfl⟩ := hrel
    by_cases h0 : 0 < k
    · have hcell := H.out (k - 1) (by omega)
      go_wp2
      · rename_i hz
        refine ⟨⟨k - 1, by omega, ?_, rfl⟩, by simp [lenOf]; omega⟩
        obtain ⟨m, rfl⟩ : ∃ m, k = m + 1 := ⟨k - 1, by omega⟩
        exact lt_of_top_zero HVk.out (by simpa using hz)
      · rename_i hz _
        go_ret
        refine ⟨?_, rfl⟩
        obtain ⟨m, rfl⟩ : ∃ m, k = m + 1 := ⟨k - 1, by omega⟩
        rw [wlen_of_trim (trim_of_top HVk.out (by simpa using hz))]
        rfl
    · obtain rfl : k = 0 := by omega
      go_wp2
      go_ret
      have hv : V = 0 := by have := HVk.out; simpa using this
      subst hv
      exact ⟨rfl, rfl⟩

theorem word_in (b n c i : Nat) (x : Int) (w : World) (hi : i < n) (hc : w.cell? ⟨b, i, none⟩ = some (.int .u64 x)) :
    Calls Tryz.prog 134 #[.slice (some ⟨b, 0, none⟩) n c, .int .i64 i] w fun e w' => e = .returned (.int .u64 x) ∧ w = w' := by
  go_enter Tryz.func134, Tryz.ntmps134
  go_wp2
  go_ret
  exact ⟨rfl, rfl⟩
theorem word_out (A : Option Addr) (n c i : Nat) (w : World) (hi : n ≤ i) :
    Calls Tryz.prog 134 #[.slice A n c, .int .i64 i] w fun e w' => e = .returned (.int .u64 0) ∧ w = w' := by
  go_enter Tryz.func134, Tryz.ntmps134
  go_wp2
  go_ret
  exact ⟨rfl, rfl⟩

theorem u64_info : (Tryz.prog.info? 131).map (fun i => (i.zero, i.size, i.bytes)) = some (some (.int .u64 0), 1, 8) := by kernel_rfl

theorem make_u64 (n : Nat) (hn : n ≤ 1048576) (w : World) : (Instr.makeSlice 99 (.int .i64 (n : Int)) (.int .i64 (n : Int))).run Tryz.prog w = .ok (.slice (some ⟨w.heap.size, 0, none⟩) n n) (w.alloc (.cells (madeCells #[.int .u64 0] n) 131)) :=
  run_make_row' 99 131 (.int .u64 0) 8 Tryz.underlying99 u64_info rfl .i64 .i64 n (by omega) (by omega) w

/-- The number of the last k bytes of a string. -/
def lowV (s : ByteArray) (k : Nat) : Nat := lval (s.data.toList.reverse.take k)
theorem lowV_zero (s : ByteArray) : lowV s 0 = 0 := rfl
theorem lowV_all (s : ByteArray) : lowV s s.size = bval s.data.toList := by
  unfold lowV bval; rw [List.take_of_length_le (by simp)]
theorem lowV_lt (s : ByteArray) (k : Nat) (hk : k ≤ s.size) : lowV s k < 256 ^ k := by
  have h := lval_lt (s.data.toList.reverse.take k)
  rw [List.length_take, Nat.min_eq_left (by simpa using hk)] at h
  exact h
theorem lowV_succ (s : ByteArray) (k : Nat) (h : k < s.size) : lowV s (k + 1) = lowV s k + (s[s.size - 1 - k]'(by omega)).toNat * 256 ^ k := by
  unfold lowV
  have hl : k < s.data.toList.reverse.length := by simpa using h
  rw [List.take_succ_eq_append_getElem hl, lval_append, List.length_take, Nat.min_eq_left (by omega)]
  have e : s.data.toList.reverse[k] = s[s.size - 1 - k]'(by omega) := by
    rw [List.getElem_reverse]; simp only [Array.getElem_toList, Array.length_toList]; rfl
  rw [e]
  simp only [lval]
  rw [Nat.mul_zero, Nat.add_zero, Nat.mul_comm]

theorem words_store (s : ByteArray) (k : Nat) (h : k < s.size) :
    bits .or .u64 (word (lowV s k) (k / 8) : Int) (IntKind.u64.wrap (IntKind.u64.wrap ((s[s.size - 1 - k]'(by omega)).toNat : Int) * 2 ^ (8 * (k % 8)))) = ((word (lowV s (k + 1)) (k / 8) : Nat) : Int) := by
  have hc : (s[s.size - 1 - k]'(by omega)).toNat < 256 := UInt8.toNat_lt _
  rw [lowV_succ s k h, words_step (lowV_lt s k (by omega)) hc, if_pos rfl]
  generalize (s[s.size - 1 - k]'(by omega)).toNat = c at *
  have h1 : IntKind.u64.wrap (c : Int) = (c : Int) := by rw [IntKind.wrap_u64]; omega
  have hp : 2 ^ (8 * (k % 8)) ≤ 2 ^ 56 := Nat.pow_le_pow_right (by omega) (by omega)
  have h2 : c * 2 ^ (8 * (k % 8)) < 18446744073709551616 := by
    have h3 : c * 2 ^ (8 * (k % 8)) ≤ 255 * 2 ^ 56 := Nat.mul_le_mul (by omega) hp
    omega
  have h4 : IntKind.u64.wrap ((c : Int) * 2 ^ (8 * (k % 8))) = ((c <<< (8 * (k % 8)) : Nat) : Int) := by
    rw [Nat.shiftLeft_eq, IntKind.wrap_u64]
    have : (c : Int) * 2 ^ (8 * (k % 8)) = ((c * 2 ^ (8 * (k % 8)) : Nat) : Int) := by simp
    rw [this]; omega
  rw [h1, h4, bits_or_u64_nat _ _ (word_lt _ _) (by rw [Nat.shiftLeft_eq]; exact h2)]

theorem words_row {w : World} {b n : Nat} (s : ByteArray) (k : Nat) (h : k < s.size) (hr : Row w b n (word (lowV s k))) (v : Int) (hv : v = (word (lowV s (k + 1)) (k / 8) : Nat)) :
    Row (w.setCell ⟨b, k / 8, none⟩ (.int .u64 v)).drew b n (word (lowV s (k + 1))) := by
  refine (Row.drew (hr.set (k / 8) v hv)).congr fun i _ => ?_
  have hc : (s[s.size - 1 - k]'(by omega)).toNat < 256 := UInt8.toNat_lt _
  by_cases e : i = k / 8
  · rw [if_pos e, e]
  · rw [if_neg e, lowV_succ s k h, words_step (lowV_lt s k (by omega)) hc, if_neg e]

set_option maxRecDepth 100000 in
set_option maxHeartbeats 1000000 in
theorem words_any (s : ByteArray) (w : World) (hs : s.size ≤ 1048576) :
    Calls Tryz.prog 62 #[.string s] w fun e w' => e = .returned (.slice (some ⟨w.heap.size, 0, none⟩) ((s.size + 7) / 8) ((s.size + 7) / 8)) ∧ Row w' w.heap.size ((s.size + 7) / 8) (word (bval s.data.toList)) ∧ Below w.heap.size w w' ∧ w'.heap.size = w.heap.size + 1 := by
  have hmk : ∀ W : World, (Instr.makeSlice 99 (.int .i64 (((s.size : Int) + 7) / 8)) (.int .i64 (((s.size : Int) + 7) / 8))).run Tryz.prog W = .ok (.slice (some ⟨W.heap.size, 0, none⟩) ((s.size + 7) / 8) ((s.size + 7) / 8)) (W.alloc (.cells (madeCells #[.int .u64 0] ((s.size + 7) / 8)) 131)) := by
    intro W
    have e : ((s.size : Int) + 7) / 8 = (((s.size + 7) / 8 : Nat) : Int) := by omega
    rw [e]
    exact make_u64 _ (by omega) W
  go_enter Tryz.func62, Tryz.ntmps62
  go_wp2
  go_loopw [12] (fun i wr => ∃ k : Nat, k ≤ s.size ∧ i = .int .i64 k ∧ Row wr w.heap.size ((s.size + 7) / 8) (word (lowV s k)) ∧ Below w.heap.size w wr ∧ wr.heap.size = w.heap.size + 1) (fun i _ => s.size - (intOf i).toNat)
  case atStart =>
    refine ⟨0, Nat.zero_le _, rfl, ?_, (Below.refl _ _).alloc (Nat.le_refl _) _, by simp⟩
    exact (Row.of_rowIs (f := fun _ => 0) (World.rowIs_made w _ _ _)).congr fun i _ => by rw [lowV_zero, word_of_lt (wpow_pos i)]
  case round =>
    obtain ⟨k, hk, rfl, hrow, hb, hsz⟩ := hrel
    have HR := Lib.hid hrow
    have HB := Lib.hid hb
    have HS := Lib.hid hsz
    clear hrow hb hsz
    by_cases hlt : k < s.size
    · have hcell := Row.cell HR.out (i := k / 8) (by omega)
      have hfr := Row.frozen HR.out (k / 8)
      have e1 : IntKind.i64.wrap ((s.size : Int) - 1) = (s.size : Int) - 1 := by rw [IntKind.wrap_i64]; omega
      have e2 : IntKind.i64.wrap ((s.size : Int) - 1 - (k : Int)) = (s.size : Int) - 1 - (k : Int) := by rw [IntKind.wrap_i64]; omega
      have e3 : ((s.size : Int) - 1 - (k : Int)).toNat = s.size - 1 - k := by omega
      have e4 : (0 : Int) ≤ (s.size : Int) - 1 - (k : Int) := by omega
      have e5 : (s.size : Int) - 1 - (k : Int) < (s.size : Int) := by omega
      have e6 : IntKind.i64.wrap ((k : Int) / 8) = (k : Int) / 8 := by rw [IntKind.wrap_i64]; omega
      have e7 : ((k : Int) / 8).toNat = k / 8 := by omega
      have hidx := run_index_str (P := Tryz.prog) Tryz.underlying9 s (s.size - 1 - k) ((s.size : Int) - 1 - (k : Int)) (by omega) (by omega)
      have HV := Lib.hid (words_store s k hlt)
      go_wp2
      go_region
      go_wp2
      go_roundw
      case rel =>
        refine ⟨k + 1, by omega, by go_num, words_row s k hlt HR.out _ HV.out, (HB.out.setCell (p := ⟨w.heap.size, k / 8, none⟩) (Nat.le_refl _) _).drew, ?_⟩
        have := HS.out
        simpa [World.setCell] using this
      case measure => simp [intOf]; omega
    · obtain rfl : k = s.size := by omega
      go_wp2
      go_ret
      refine ⟨rfl, ?_, HB.out, HS.out⟩
      have := HR.out
      rwa [lowV_all] at this
end Go.Proofs.YtoolanjbmbcaiaaGreatDoor
namespace Go.Proofs.YtoolanjbmbcaiaaGreatDoor
open Go.RowKit Bf

theorem u8_info : (Tryz.prog.info? 5).map (fun i => (i.zero, i.size, i.bytes)) = some (some (.int .u8 0), 1, 1) := by kernel_rfl

def byteV (c : UInt8) : Value := .int .u8 (c.toNat : Int)

set_option maxRecDepth 100000 in
set_option maxHeartbeats 1000000 in
theorem text_some (b n c V : Nat) (w : World) (hV : V < 18446744073709551616 ^ n) (hn : n ≤ 65536) (hb : b < w.heap.size) (h : Wds w b n V) :
    Calls Tryz.prog 60 #[.slice (some ⟨b, 0, none⟩) n c] w fun e w' => e = .returned (.string ⟨(benc V).toArray⟩) ∧ Below w.heap.size w w' := by
  have HV := Lib.hid hV
  have H := Lib.hid h
  clear h hV
  obtain ⟨i0, hi0, hz0, hz1, hz2⟩ := info_parts u8_info
  go_enter Tryz.func60, Tryz.ntmps60
  go_wp2_with (at_make; refine wpList_make_own _ rfl _ _ 130 rfl w.heap.size 5 i0 (.int .u8 0) 1 Tryz.underlying130 hi0 hz0 hz1 .i64 .i64 _ (8 * n) rfl rfl (by omega) ?_ ?_ (Nat.le_refl _) ?_; (rw [hz2]; omega); (simp only [maxLen]; omega); intro w1 hown1 hg1)
  have HO := Lib.hid hown1
  have HB := Lib.hid ((Below.refl w.heap.size w).grown hg1 (Nat.le_refl _) (by simp))
  clear hown1 hg1
  go_loopw [3, 4] (fun v i wr => ∃ z : Int, -1 ≤ z ∧ z < 8 * n ∧ i = .int .i64 z ∧ v = .slice (some ⟨w.heap.size, 0, none⟩) (benc (V / 256 ^ (z + 1).toNat)).length (8 * n) ∧ wr.ownsRow w.heap.size 5 1 v (benc (V / 256 ^ (z + 1).toNat)).length ((benc (V / 256 ^ (z + 1).toNat)).map byteV) ∧ Below w.heap.size w wr) (fun _ i _ => (intOf i + 1).toNat)
  case atStart =>
    have e : V / 256 ^ (8 * (n : Int) - 1 + 1).toNat = 0 := by
      rw [show (8 * (n : Int) - 1 + 1).toNat = 8 * n from by omega]
      apply Nat.div_eq_of_lt
      have := HV.out
      rwa [wpow_two, show 64 * n = 8 * (8 * n) from by omega, ← bpow_two] at this
    refine ⟨8 * (n : Int) - 1, by omega, by omega, rfl, ?_, ?_, HB.out⟩
    · rw [e]; rfl
    · rw [e]; exact HO.out
  case round =>
    obtain ⟨z, hz1', hz2', rfl, rfl, hown, hbel⟩ := hrel
    have HO1 := Lib.hid hown
    have HB1 := Lib.hid hbel
    clear hown hbel HO HB
    by_cases hz : 0 ≤ z
    · obtain ⟨m, rfl⟩ := Int.eq_ofNat_of_zero_le hz
      have hcell := (HB1.out.cell (p := ⟨b, m / 8, none⟩) hb).trans (H.out (m / 8) (by omega))
      obtain ⟨y, hy, hyv⟩ : ∃ y : Nat, (word V (m / 8) : Int) / 2 ^ (8 * (m % 8)) = (y : Int) ∧ y % 256 = V / 256 ^ m % 256 := by
        refine ⟨word V (m / 8) >>> (8 * (m % 8)), ?_, byte_of_word V m⟩
        rw [Nat.shiftRight_eq_div_pow]; simp
      have HY := Lib.hid hyv
      clear hyv
      have hstep : V / 256 ^ m = 256 * (V / 256 ^ (m + 1)) + y % 256 := by
        rw [HY.out, Nat.pow_succ, ← Nat.div_div_eq_div_mul]; omega
      have HST := Lib.hid hstep
      clear hstep
      have em : ((m : Int) + 1).toNat = m + 1 := by omega
      rw [em] at HO1 ⊢
      have hlen : (benc (V / 256 ^ (m + 1))).length + m + 1 ≤ 8 * n := by
        have h1 : (benc (V / 256 ^ (m + 1))).length ≤ 8 * n - m - 1 := by
          rw [benc_length_le, Nat.div_lt_iff_lt_mul (Nat.pow_pos (by omega)), ← Nat.pow_add]
          have := HV.out
          rw [wpow_two, show 64 * n = 8 * (8 * n) from by omega, ← bpow_two] at this
          rwa [show 8 * n - m - 1 + (m + 1) = 8 * n from by omega]
        omega
      have hx0 : V / 256 ^ (m + 1) = 0 ↔ (benc (V / 256 ^ (m + 1))).length = 0 := by
        rw [List.length_eq_zero_iff, benc_eq_nil]
      have HX := Lib.hid hx0
      clear hx0
      generalize hbs : benc (V / 256 ^ (m + 1)) = bs at *
      have HBS := Lib.hid hbs
      clear hbs em
      by_cases hap : y % 256 = 0 ∧ bs.length = 0
      · obtain ⟨hy0, hl0⟩ := hap
        have hb0 : bs = [] := List.length_eq_zero_iff.1 hl0
        have hfin : benc (V / 256 ^ (↑m - 1 + 1 : Int).toNat) = [] := by
          rw [show ((m : Int) - 1 + 1).toNat = m from by omega, HST.out, HX.out.2 hl0, hy0]; rfl
        have HF := Lib.hid hfin
        subst hb0
        have t1 : ((y : Int) % 256 != 0) = false := by simp; omega
        clear hfin hl0
        simp only [List.length_nil] at *
        go_wp2
        refine ⟨⟨(m : Int) - 1, by omega, by omega, rfl, ?_, ?_, HB1.out⟩, by simp [intOf] <;> omega⟩
        · rw [HF.out]; rfl
        · rw [HF.out]; exact HO1.out
      · have hfin : benc (V / 256 ^ (↑m - 1 + 1 : Int).toNat) = bs ++ [UInt8.ofNat (y % 256)] := by
          rw [show ((m : Int) - 1 + 1).toNat = m from by omega, HST.out, benc_step _ _ (by omega), HBS.out]
          by_cases hq : y % 256 = 0
          · exact .inl fun e => hap ⟨hq, HX.out.1 e⟩
          · exact .inr hq
        have HF := Lib.hid hfin
        have hby : byteV (UInt8.ofNat (y % 256)) = .int .u8 ((y : Int) % 256) := by
          unfold byteV
          rw [UInt8.toNat_ofNat']
          congr 1; omega
        have HBY := Lib.hid hby
        clear hfin hby
        have key : ∀ (W : World), W.ownsRow w.heap.size 5 1 (.slice (some ⟨w.heap.size, 0, none⟩) (bs.length + 1) (8 * n)) (bs.length + 1) (bs.map byteV ++ [.int .u8 ((y : Int) % 256)]) → W.ownsRow w.heap.size 5 1 (.slice (some ⟨w.heap.size, 0, none⟩) (bs.length + 1) (8 * n)) (benc (V / 256 ^ (↑m - 1 + 1 : Int).toNat)).length ((benc (V / 256 ^ (↑m - 1 + 1 : Int).toNat)).map byteV) := by
          intro W hW
          rw [HF.out]
          simpa [HBY.out] using hW
        have KEY := Lib.hid key
        clear key
        by_cases hy0 : y % 256 = 0
        · have hl0 : 0 < bs.length := by
            rcases Nat.eq_zero_or_pos bs.length with e | e
            · exact absurd ⟨hy0, e⟩ hap
            · exact e
          have t1 : ((y : Int) % 256 != 0) = false := by simp; omega
          clear hap
          go_wp2_with (at_builtin; refine wpList_append_fits _ rfl _ _ 130 rfl w.heap.size 5 i0 1 Tryz.underlying130 hi0 hz1 w.heap.size bs.length (8 * n) (bs.map byteV) rfl (HO1.out.alloc _) ⟨wr.heap.size, 0, none⟩ 1 1 [.int .u8 ((y : Int) % 256)] rfl rfl (cell_one_new _ _ _) (by simp [Value.oneCell']) (by omega) ?_; intro w2 hown2 hg2)
          refine ⟨⟨(m : Int) - 1, by omega, by omega, rfl, ?_, KEY.out _ hown2, ?_⟩, by simp [intOf] <;> omega⟩
          · rw [HF.out]; simp
          · exact (HB1.out.alloc HB1.out.size _).grown hg2 (by have := HB1.out.size; simp; omega) (by simp)
        · have t1 : ((y : Int) % 256 != 0) = true := by simp; omega
          clear hap
          go_wp2_with (at_builtin; refine wpList_append_fits _ rfl _ _ 130 rfl w.heap.size 5 i0 1 Tryz.underlying130 hi0 hz1 w.heap.size bs.length (8 * n) (bs.map byteV) rfl (HO1.out.alloc _) ⟨wr.heap.size, 0, none⟩ 1 1 [.int .u8 ((y : Int) % 256)] rfl rfl (cell_one_new _ _ _) (by simp [Value.oneCell']) (by omega) ?_; intro w2 hown2 hg2)
          refine ⟨⟨(m : Int) - 1, by omega, by omega, rfl, ?_, KEY.out _ hown2, ?_⟩, by simp [intOf] <;> omega⟩
          · rw [HF.out]; simp
          · exact (HB1.out.alloc HB1.out.size _).grown hg2 (by have := HB1.out.size; simp; omega) (by simp)
    · obtain rfl : z = -1 := by omega
      have hcv := run_convert_bytes_back (P := Tryz.prog) wr 130 9 5 ⟨w.heap.size, 0, none⟩ (8 * n) (benc V) Tryz.underlying130 Tryz.underlying5 Tryz.underlying9 (by
        intro j hj
        have ho := HO1.out
        simp only [Int.reduceNeg, Int.reduceAdd, Int.toNat_zero, Nat.pow_zero, Nat.div_one] at ho
        have := ho.cells (g := w.heap.size) rfl j (byteV (benc V)[j]) (by simp [hj])
        exact this)
      have e0 : V / 256 ^ ((-1 : Int) + 1).toNat = V := by simp
      rw [e0]
      go_wp2
      go_ret
      exact ⟨rfl, HB1.out⟩

theorem text_nil (w : World) : Calls Tryz.prog 60 #[.slice none 0 0] w fun e w' => e = .returned (.string ⟨(benc 0).toArray⟩) ∧ Below w.heap.size w w' := by
  obtain ⟨i0, hi0, hz0, hz1, hz2⟩ := info_parts u8_info
  go_enter Tryz.func60, Tryz.ntmps60
  go_wp2_with (at_make; refine wpList_make_own _ rfl _ _ 130 rfl w.heap.size 5 i0 (.int .u8 0) 1 Tryz.underlying130 hi0 hz0 hz1 .i64 .i64 _ 0 rfl rfl (by omega) ?_ ?_ (Nat.le_refl _) ?_; (rw [hz2]; omega); (simp only [maxLen]; omega); intro w1 hown1 hg1)
  have HB := Lib.hid ((Below.refl w.heap.size w).grown hg1 (Nat.le_refl _) (by simp))
  clear hown1 hg1
  have hcv := fun W => run_convert_bytes_back (P := Tryz.prog) W 130 9 5 ⟨w.heap.size, 0, none⟩ 0 [] Tryz.underlying130 Tryz.underlying5 Tryz.underlying9 (by intro j hj; simp at hj)
  go_loopw [3, 4] (fun v i wr => v = .slice (some ⟨w.heap.size, 0, none⟩) 0 0 ∧ i = .int .i64 (-1) ∧ Below w.heap.size w wr) (fun _ _ _ => 0)
  case atStart => exact ⟨rfl, rfl, HB.out⟩
  case round =>
    obtain ⟨rfl, rfl, hbel⟩ := hrel
    have HB1 := Lib.hid hbel
    clear hbel
    simp only [List.length_nil] at hcv
    go_wp2
    go_ret
    exact ⟨rfl, HB1.out⟩

theorem short_some (b n c V : Nat) (w : World) (hV : V < 18446744073709551616 ^ n) (hn : n ≤ 65536) (hb : b < w.heap.size) (h : Wds w b n V) :
    Calls Tryz.prog 97 #[.slice (some ⟨b, 0, none⟩) n c] w fun e w' => e = .returned (if V < 256 ^ 256 then .tuple #[.string ⟨(benc V).toArray⟩, .int .i64 0] else .tuple #[.string ⟨#[]⟩, .int .i64 2]) ∧ Below w.heap.size w w' := by
  have HC := Lib.hid (text_some b n c V w hV hn hb h)
  have HL := Lib.hid (benc_length_le (n := V) (k := 256))
  clear hV h
  by_cases hl : (benc V).length ≤ 256
  · rw [if_pos (HL.out.1 hl)]
    go_enter Tryz.func97, Tryz.ntmps97
    go_wp2_with (go_at_call 60; refine HC.out.mono ?_; rintro e w1 ⟨rfl, hb1⟩)
    go_ret2
    exact ⟨rfl, hb1⟩
  · rw [if_neg (fun e => hl (HL.out.2 e))]
    go_enter Tryz.func97, Tryz.ntmps97
    go_wp2_with (go_at_call 60; refine HC.out.mono ?_; rintro e w1 ⟨rfl, hb1⟩)
    go_ret2
    exact ⟨rfl, hb1⟩
end Go.Proofs.YtoolanjbmbcaiaaGreatDoor
namespace Go.Proofs.YtoolanjbmbcaiaaGreatDoor
open Go.RowKit Bf

theorem quiet_add_left {P : Program} {f : FuncId} {args : Array Value} {w : World} {a n : Nat} {v : Value}
    (h : Calls P f args (w.drewN (a + n)) fun e w' => e = .returned v ∧ w.drewN (a + n) = w') :
    Calls P f args (w.drewN (a + n)) fun e w'' => e = .returned v ∧ ∃ m, w'' = w.drewN (a + m) :=
  h.mono fun _ _ ⟨he, hm⟩ => ⟨he, n, hm.symm⟩
theorem quiet_left {P : Program} {f : FuncId} {args : Array Value} {w : World} {n : Nat} {v : Value}
    (h : Calls P f args (w.drewN n) fun e w' => e = .returned v ∧ w.drewN n = w') : Calls P f args (w.drewN n) fun e w'' => e = .returned v ∧ ∃ m, w'' = w.drewN m :=
  h.mono fun _ _ ⟨he, hm⟩ => ⟨he, n, hm.symm⟩

def cmpN (a b : Nat) : Int := if a < b then -1 else if a = b then 0 else 1
theorem cmpN_lt {a b : Nat} (h : a < b) : cmpN a b = -1 := if_pos h
theorem cmpN_eq (a : Nat) : cmpN a a = 0 := by simp [cmpN]
theorem cmpN_gt {a b : Nat} (h : b < a) : cmpN a b = 1 := by unfold cmpN; rw [if_neg (by omega), if_neg (by omega)]

theorem cmp_int (x y : Nat) (w : World) :
    Calls Tryz.prog 136 #[.int .i64 x, .int .i64 y] w fun e w' => e = .returned (.int .i64 (cmpN x y)) ∧ w = w' := by
  rcases Nat.lt_trichotomy x y with h | rfl | h
  · rw [cmpN_lt h]
    go_enter Tryz.func136, Tryz.ntmps136
    go_wp2
    go_ret
    exact ⟨rfl, rfl⟩
  · rw [cmpN_eq]
    go_enter Tryz.func136, Tryz.ntmps136
    go_wp2
    go_ret
    exact ⟨rfl, rfl⟩
  · rw [cmpN_gt h]
    go_enter Tryz.func136, Tryz.ntmps136
    go_wp2
    go_ret
    exact ⟨rfl, rfl⟩

theorem cmp_u64 (x y : Nat) (w : World) :
    Calls Tryz.prog 137 #[.int .u64 x, .int .u64 y] w fun e w' => e = .returned (.int .i64 (cmpN x y)) ∧ w = w' := by
  rcases Nat.lt_trichotomy x y with h | rfl | h
  · rw [cmpN_lt h]
    go_enter Tryz.func137, Tryz.ntmps137
    go_wp2
    go_ret
    exact ⟨rfl, rfl⟩
  · rw [cmpN_eq]
    go_enter Tryz.func137, Tryz.ntmps137
    go_wp2
    go_ret
    exact ⟨rfl, rfl⟩
  · rw [cmpN_gt h]
    go_enter Tryz.func137, Tryz.ntmps137
    go_wp2
    go_ret
    exact ⟨rfl, rfl⟩

set_option maxRecDepth 100000 in
set_option maxHeartbeats 1000000 in
theorem compare_any (b b' n m c c' V U : Nat) (w : World) (hV : Trim n V) (hU : Trim m U) (hn : n ≤ 65536) (hm : m ≤ 65536) (h : Wds w b n V) (h' : Wds w b' m U) :
    Calls Tryz.prog 94 #[.slice (some ⟨b, 0, none⟩) n c, .slice (some ⟨b', 0, none⟩) m c'] w fun e w' => e = .returned (.int .i64 (cmpN V U)) ∧ ∃ q, w' = w.drewN q := by
  have HV := Lib.hid hV
  have HU := Lib.hid hU
  have H := Lib.hid h
  have H' := Lib.hid h'
  clear h h' hV hU
  by_cases hnm : n = m
  · subst hnm
    go_enter Tryz.func94, Tryz.ntmps94
    go_wp2
    go_step3
    go_wp2
    go_step3
    go_wp2
    go_loopw [5] (fun i wr => ∃ z : Int, -1 ≤ z ∧ z < n ∧ i = .int .i64 z ∧ (∀ j : Nat, z < j → j < n → word V j = word U j) ∧ ∃ q, wr = w.drewN q) (fun i _ => (intOf i + 1).toNat)
    case atStart => exact ⟨(n : Int) - 1, by omega, by omega, rfl, fun j h1 h2 => by omega, 0, rfl⟩
    case round =>
      obtain ⟨z, hz1, hz2, rfl, heq, q, rfl⟩ := hrel
      have HE := Lib.hid heq
      clear heq
      by_cases hz : 0 ≤ z
      · obtain ⟨k, rfl⟩ := Int.eq_ofNat_of_zero_le hz
        have hc1 := H.out k (by omega)
        have hc2 := H'.out k (by omega)
        by_cases he : word V k = word U k
        · rw [he] at hc1
          go_wp2
          go_quiet (fail)
          go_wp2
          go_roundw
          case rel =>
            refine ⟨(k : Int) - 1, by omega, by omega, rfl, fun j h1 h2 => ?_, ?_⟩
            · by_cases e : j = k
              · rw [e]; exact he
              · exact HE.out j (by omega) h2
            · exact ⟨_, rfl⟩
          case measure => simp [intOf]
        · have t1 : ((word V k : Int) != (word U k : Int)) = true := by simp; omega
          go_wp2
          go_quiet (fail)
          go_wp2
          go_quiet ((go_at_call 137; exact quiet_add_left (cmp_u64 _ _ _)))
          go_wp2
          rw [Exit.noGoto_ret]
          go_ret
          refine ⟨?_, _, World.drewN_drewN _ _ _⟩
          rcases Nat.lt_or_gt_of_ne he with hl | hg
          · rw [cmpN_lt (cmp_lt HV.out.1 HU.out.1 (by omega) (fun j h1 h2 => HE.out j (by omega) h2) hl), ← cmpN_lt hl]; rfl
          · rw [cmpN_gt (cmp_lt HU.out.1 HV.out.1 (by omega) (fun j h1 h2 => (HE.out j (by omega) h2).symm) hg), ← cmpN_gt hg]; rfl
      · obtain rfl : z = -1 := by omega
        go_wp2
        go_ret
        refine ⟨?_, _, rfl⟩
        rw [cmp_eq HV.out.1 HU.out.1 (fun j hj => HE.out j (by omega) hj), cmpN_eq]; rfl
  · have t1 : ((n : Int) != (m : Int)) = true := by simp; omega
    have hcmp : cmpN n m = cmpN V U := by
      rcases Nat.lt_or_gt_of_ne hnm with hl | hg
      · rw [cmpN_lt hl, cmpN_lt (trim_lt HV.out HU.out hl)]
      · rw [cmpN_gt hg, cmpN_gt (trim_lt HU.out HV.out hg)]
    have HC := Lib.hid hcmp
    clear hcmp
    go_enter Tryz.func94, Tryz.ntmps94
    go_wp2
    go_step3
    go_wp2_with (go_at_call 136; refine (cmp_int n m _).mono ?_; rintro e w1 ⟨rfl, rfl⟩)
    rw [Exit.noGoto_ret]
    go_ret
    refine ⟨?_, 0, rfl⟩
    rw [← HC.out]; rfl
end Go.Proofs.YtoolanjbmbcaiaaGreatDoor
namespace Go.Proofs.YtoolanjbmbcaiaaGreatDoor
open Go.RowKit Bf
attribute [local go_sem ↓] Go.wp_at_zero Go.wp_at_succ

theorem add64 (x y c : Nat) (hc : c ≤ 1) (w : World) : (callFunc 140 #[.int .u64 (x : Int), .int .u64 (y : Int), .int .u64 (c : Int)]).run Tryz.prog w =
    .ok (.value (.tuple #[.int .u64 (((x + y + c) % 18446744073709551616 : Nat) : Int), .int .u64 (((x + y + c) / 18446744073709551616 : Nat) : Int)])) w := by
  rw [run_callFunc_extern Tryz.func140 (by kernel_rfl) (by kernel_rfl) (by kernel_rfl) (e := add64Entry) (by kernel_rfl), run_add64 x y c (by omega) (by omega) (by omega) (by omega)]
  simp only [Result.andThen]
  congr 5 <;> omega
theorem sub64 (x y b : Nat) (hb : b ≤ 1) (w : World) : (callFunc 138 #[.int .u64 (x : Int), .int .u64 (y : Int), .int .u64 (b : Int)]).run Tryz.prog w =
    .ok (.value (.tuple #[.int .u64 (((x + 18446744073709551616 - y - b) % 18446744073709551616 : Nat) : Int), .int .u64 ((if x < y + b then 1 else 0 : Nat) : Int)])) w := by
  rw [run_callFunc_extern Tryz.func138 (by kernel_rfl) (by kernel_rfl) (by kernel_rfl) (e := sub64Entry) (by kernel_rfl), run_sub64 x y b hb]
  rfl

theorem word_V (b n c i V : Nat) (w : World) (hV : V < 18446744073709551616 ^ n) (h : Wds w b n V) :
    Calls Tryz.prog 134 #[.slice (some ⟨b, 0, none⟩) n c, .int .i64 i] w fun e w' => e = .returned (.int .u64 (word V i : Int)) ∧ w = w' := by
  by_cases hi : i < n
  · exact word_in b n c i _ w hi (h i hi)
  · have e : word V i = 0 := word_of_lt (Nat.lt_of_lt_of_le hV (Nat.pow_le_pow_right (by omega) (by omega)))
    rw [e]
    exact word_out _ n c i w (by omega)

/-- reduce: the words of a, in a block of its own, become those of the difference. -/
def mix (i : Nat) (f g : Nat → Nat) : Nat → Nat := fun j => if j < i then f j else g j

set_option maxRecDepth 100000 in
set_option maxHeartbeats 1000000 in
theorem reduce_any (g b N n m c c' V U : Nat) (f : Nat → Nat) (w : World) (hU : U < 18446744073709551616 ^ m) (hV : V < 18446744073709551616 ^ n) (hle : U ≤ V) (hf : ∀ j, j < n → f j = word V j) (hN : n ≤ N) (hn : n ≤ 65536) (hgb : g ≠ b)
    (hg : Row w g N f) (hb : Wds w b m U) :
    Calls Tryz.prog 95 #[.slice (some ⟨g, 0, none⟩) n c, .slice (some ⟨b, 0, none⟩) m c'] w fun e w' => e = .returned (.tuple #[]) ∧ Row w' g N (mix n (word (V - U)) f) ∧ w.grownBy w' (some g) ∧ w'.heap.size = w.heap.size := by
  have HU := Lib.hid hU
  have HV := Lib.hid hV
  have HG := Lib.hid hg
  have HBW := Lib.hid hb
  have HF := Lib.hid hf
  clear hU hV hg hb hf
  go_enter Tryz.func95, Tryz.ntmps95
  go_wp2
  go_loopw [4, 8] (fun bo i wr => ∃ k : Nat, k ≤ n ∧ i = .int .i64 k ∧ bo = .int .u64 (bor V U k : Int) ∧ Row wr g N (mix k (word (V - U)) f) ∧ w.grownBy wr (some g) ∧ wr.heap.size = w.heap.size) (fun _ i _ => n - (intOf i).toNat)
  case atStart =>
    refine ⟨0, Nat.zero_le _, rfl, by rw [bor_zero]; rfl, ?_, World.grownBy.refl _ _, rfl⟩
    exact (HG.out).congr fun i _ => by simp [mix]
  case round =>
    obtain ⟨k, hk, rfl, rfl, hrow, hgr, hsz⟩ := hrel
    have HR := Lib.hid hrow
    have HGR := Lib.hid hgr
    have HS := Lib.hid hsz
    clear hrow hgr hsz
    by_cases hlt : k < n
    · have hbo1 := bor_le V U k
      have hcell := Row.cell HR.out (i := k) (by omega)
      have hfr := Row.frozen HR.out k
      have ef : mix k (word (V - U)) f k = word V k := by simp [mix, HF.out k hlt]
      rw [ef] at hcell
      clear ef
      have HW := Lib.hid (fun W (hW : Wds W b m U) => word_V b m c' k U W HU.out hW)
      have hs := fun W => sub64 (word V k) (word U k) (bor V U k) hbo1 W
      rw [sub_word hle, ← sub_bor] at hs
      have hbw : Wds wr b m U := fun j hj => (HGR.out.cell (HBW.out j hj) (by simp; omega))
      have HBW' := Lib.hid hbw
      clear hbw
      go_wp2_with fail
      go_region_with (go_at_call 134; refine (HW.out _ (by exact HBW'.out)).mono ?_; rintro e w1 ⟨rfl, rfl⟩)
      all_goals
        go_wp2
        go_roundw
        case rel =>
          refine ⟨k + 1, by omega, by go_num, rfl, ?_, ?_, ?_⟩
          · refine (Row.drew (HR.out.set k _ rfl)).congr fun i _ => ?_
            by_cases e : i = k
            · rw [if_pos e, e]; simp [mix]
            · rw [if_neg e]
              have : (i < k + 1) = (i < k) := by apply propext; omega
              simp [mix, this]
          · exact ⟨HGR.out.os, HGR.out.tape, HGR.out.output, by have := HGR.out.size; simpa [World.setCell] using this, fun i hi hne => (Below.heap_setCell _ _ _ _ (by simp at hne ⊢; omega)).trans (HGR.out.block i hi hne)⟩
          · have := HS.out; simpa [World.setCell] using this
        case measure => simp [intOf]; omega
    · obtain rfl : k = n := by omega
      go_wp2
      go_end0
      exact ⟨rfl, HR.out, HGR.out, HS.out⟩
end Go.Proofs.YtoolanjbmbcaiaaGreatDoor
namespace Go.Proofs.YtoolanjbmbcaiaaGreatDoor
open Go.RowKit Bf

namespace M64
theorem maskN (a : Nat) (ha : a < 18446744073709551616) : bits .and .u64 (a : Int) 4294967295 = ((a % 4294967296 : Nat) : Int) := by
  have h := bits_and_u64_nat a 4294967295 ha (by omega)
  have e : a &&& 4294967295 = a % 4294967296 := Nat.and_two_pow_sub_one_eq_mod a 32
  rw [e] at h
  exact h
theorem divN (a : Nat) : (a : Int) / 4294967296 = ((a / 4294967296 : Nat) : Int) := by omega
theorem mulN (a b : Nat) : (a : Int) * (b : Int) = ((a * b : Nat) : Int) := (Int.natCast_mul a b).symm
theorem addN (a b : Nat) : (a : Int) + (b : Int) = ((a + b : Nat) : Int) := (Int.natCast_add a b).symm
theorem wrapN (a : Nat) (ha : a < 18446744073709551616) : IntKind.u64.wrap (a : Int) = (a : Int) := by rw [IntKind.wrap_u64]; omega
theorem wrapM (a : Nat) : IntKind.u64.wrap (a : Int) = ((a % 18446744073709551616 : Nat) : Int) := by rw [IntKind.wrap_u64]; omega
end M64

set_option maxHeartbeats 1000000 in
theorem mul64_any (x y : Nat) (hx : x < 18446744073709551616) (hy : y < 18446744073709551616) (w : World) :
    Calls Tryz.prog 139 #[.int .u64 x, .int .u64 y] w fun e w' => e = .returned (.tuple #[.int .u64 ((x * y / 18446744073709551616 : Nat) : Int), .int .u64 ((x * y % 18446744073709551616 : Nat) : Int)]) ∧ w = w' := by
  obtain ⟨bd, bt, bw, hhi⟩ := Lib.mul64_hi x y hx hy
  have ba := Lib.half_mul_le (a := x / 4294967296) (b := y / 4294967296) (by omega) (by omega)
  have bb := Lib.half_mul_le (a := x / 4294967296) (b := y % 4294967296) (by omega) (by omega)
  have bc := Lib.half_mul_le (a := x % 4294967296) (b := y / 4294967296) (by omega) (by omega)
  have ba' : x / 4294967296 * (y / 4294967296) < 18446744073709551616 := by omega
  have bb' : x / 4294967296 * (y % 4294967296) < 18446744073709551616 := by omega
  have bc' : x % 4294967296 * (y / 4294967296) < 18446744073709551616 := by omega
  have bh1 : x / 4294967296 * (y / 4294967296) + (x / 4294967296 * (y % 4294967296) + x % 4294967296 * (y % 4294967296) / 4294967296) / 4294967296 < 18446744073709551616 := by omega
  have bh : x / 4294967296 * (y / 4294967296) + (x / 4294967296 * (y % 4294967296) + x % 4294967296 * (y % 4294967296) / 4294967296) / 4294967296 + ((x / 4294967296 * (y % 4294967296) + x % 4294967296 * (y % 4294967296) / 4294967296) % 4294967296 + x % 4294967296 * (y / 4294967296)) / 4294967296 < 18446744073709551616 := by omega
  go_enter Tryz.func139, Tryz.ntmps139
  go_wp2
  simp only [M64.maskN x hx, M64.maskN y hy, M64.divN, M64.mulN, M64.addN, M64.wrapN _ bd, M64.wrapN _ bb', M64.wrapN _ bt, M64.maskN _ bt, M64.wrapN _ bc', M64.wrapN _ bw, M64.wrapN _ ba', M64.wrapN _ bh1, M64.wrapN _ bh, M64.wrapM (x * y)]
  rw [hhi]
  go_ret2
  exact ⟨rfl, rfl⟩

theorem add64_0 (x y : Nat) (w : World) : (callFunc 140 #[.int .u64 (x : Int), .int .u64 (y : Int), .int .u64 0]).run Tryz.prog w =
    .ok (.value (.tuple #[.int .u64 (((x + y) % 18446744073709551616 : Nat) : Int), .int .u64 (((x + y) / 18446744073709551616 : Nat) : Int)])) w := by
  simpa using add64 x y 0 (by omega) w

/-- One step of the inner loop, in words. -/
theorem times_words {x y s high : Nat} (hx : x < 18446744073709551616) (hy : y < 18446744073709551616) (hs : s < 18446744073709551616) (hh : high < 18446744073709551616) :
    ((x * y % 18446744073709551616 + s) % 18446744073709551616 + high) % 18446744073709551616 + (x * y / 18446744073709551616 + (x * y % 18446744073709551616 + s) / 18446744073709551616 + ((x * y % 18446744073709551616 + s) % 18446744073709551616 + high) / 18446744073709551616) * 18446744073709551616 = x * y + s + high ∧
    x * y / 18446744073709551616 + (x * y % 18446744073709551616 + s) / 18446744073709551616 + ((x * y % 18446744073709551616 + s) % 18446744073709551616 + high) / 18446744073709551616 < 18446744073709551616 := by
  have h : x * y ≤ 18446744073709551615 * 18446744073709551615 := Nat.mul_le_mul (by omega) (by omega)
  generalize x * y = p at *
  omega

/-- The state of the product: the row f has the number S. -/
structure TimesRow (wr : World) (g N S top : Nat) (high P : Nat) (f : Nat → Nat) : Prop where
  row : Row wr g N f
  lt : ∀ j, f j < 18446744073709551616
  val : nval f N + high * P = S
  zero : ∀ j, top ≤ j → f j = 0

set_option maxRecDepth 100000 in
set_option maxHeartbeats 2000000 in
theorem times_any (b b' n m c c' V U : Nat) (w : World) (hV : V < 18446744073709551616 ^ n) (hU : U < 18446744073709551616 ^ m) (hn : n ≤ 65536) (hm : m ≤ 65536) (hb : b < w.heap.size) (hb' : b' < w.heap.size) (h : Wds w b n V) (h' : Wds w b' m U) :
    Calls Tryz.prog 96 #[.slice (some ⟨b, 0, none⟩) n c, .slice (some ⟨b', 0, none⟩) m c'] w fun e w' => e = .returned (.slice (some ⟨w.heap.size, 0, none⟩) (n + m) (n + m)) ∧ Row w' w.heap.size (n + m) (word (V * U)) ∧ Below w.heap.size w w' ∧ w'.heap.size = w.heap.size + 1 := by
  have HV := Lib.hid hV
  have HU := Lib.hid hU
  have H := Lib.hid h
  have H' := Lib.hid h'
  clear h h' hV hU
  have hmk : ∀ W : World, (Instr.makeSlice 99 (.int .i64 ((n : Int) + (m : Int))) (.int .i64 ((n : Int) + (m : Int)))).run Tryz.prog W = .ok (.slice (some ⟨W.heap.size, 0, none⟩) (n + m) (n + m)) (W.alloc (.cells (madeCells #[.int .u64 0] (n + m)) 131)) := by
    intro W
    rw [← Int.natCast_add]
    exact make_u64 _ (by omega) W
  go_enter Tryz.func96, Tryz.ntmps96
  go_wp2
  go_loopw [23] (fun i wr => ∃ k : Nat, k ≤ n ∧ i = .int .i64 k ∧ (∃ f, TimesRow wr w.heap.size (n + m) (nval (word V) k * U) (k + m) 0 0 f) ∧ Below w.heap.size w wr ∧ wr.heap.size = w.heap.size + 1) (fun i _ => n - (intOf i).toNat)
  case atStart =>
    refine ⟨0, Nat.zero_le _, rfl, ⟨fun _ => 0, Row.of_rowIs (World.rowIs_made w _ _ _), fun _ => by omega, ?_, fun _ _ => rfl⟩, (Below.refl _ _).alloc (Nat.le_refl _) _, by simp⟩
    have : ∀ k, nval (fun _ => 0) k = 0 := fun k => by induction k with | zero => rfl | succ k ih => simp [nval, ih]
    simp [this, nval]
  case round =>
    obtain ⟨k, hk, rfl, ⟨f0, hf0⟩, hbel, hsz⟩ := hrel
    have HF := Lib.hid hf0
    have HB := Lib.hid hbel
    have HS := Lib.hid hsz
    clear hf0 hbel hsz hmk
    by_cases hlt : k < n
    · have hcell := (HB.out.cell (p := ⟨b, k, none⟩) hb).trans (H.out k hlt)
      obtain ⟨wo, rfl⟩ : ∃ wo : World, wo = wr := ⟨_, rfl⟩
      go_wp2
      go_loopw [8, 30] (fun hi j wr => ∃ (q high : Nat), q ≤ m ∧ j = .int .i64 q ∧ hi = .int .u64 (high : Int) ∧ high < 18446744073709551616 ∧ (∃ f, TimesRow wr w.heap.size (n + m) (nval (word V) k * U + word V k * nval (word U) q * 18446744073709551616 ^ k) (k + m) high (18446744073709551616 ^ (k + q)) f) ∧ Below w.heap.size w wr ∧ wr.heap.size = w.heap.size + 1) (fun _ j _ => m - (intOf j).toNat)
      case atStart =>
        refine ⟨0, 0, Nat.zero_le _, rfl, rfl, by omega, ⟨f0, HF.out.row, HF.out.lt, ?_, HF.out.zero⟩, HB.out, HS.out⟩
        have := HF.out.val
        simp [nval] at this ⊢
        exact this
      case round =>
        obtain ⟨q, high, hq, rfl, rfl, hh, ⟨f, hf⟩, hbel, hsz⟩ := hrel
        have HF1 := Lib.hid hf
        have HB1 := Lib.hid hbel
        have HS1 := Lib.hid hsz
        clear hf hbel hsz
        by_cases hql : q < m
        · have hcell1 := (HB1.out.cell (p := ⟨b', q, none⟩) hb').trans (H'.out q hql)
          have hcs := Row.cell HF1.out.row (i := k + q) (by omega)
          have hfr := Row.frozen HF1.out.row (k + q)
          have hx := word_lt V k
          have hy := word_lt U q
          have hsl := HF1.out.lt (k + q)
          obtain ⟨tw1, tw2⟩ := times_words hx hy hsl hh
          have HT1 := Lib.hid tw1
          clear tw1
          have HM := Lib.hid (fun W => mul64_any (word V k) (word U q) hx hy W)
          obtain ⟨lo, hlo⟩ : ∃ v, v = word V k * word U q % 18446744073709551616 := ⟨_, rfl⟩
          obtain ⟨hi, hhi⟩ : ∃ v, v = word V k * word U q / 18446744073709551616 := ⟨_, rfl⟩
          rw [← hlo, ← hhi] at HT1 HM tw2
          have ha1 := fun W => add64_0 lo (f (k + q)) W
          obtain ⟨l1, hl1⟩ : ∃ v, v = (lo + f (k + q)) % 18446744073709551616 := ⟨_, rfl⟩
          obtain ⟨c1, hc1⟩ : ∃ v, v = (lo + f (k + q)) / 18446744073709551616 := ⟨_, rfl⟩
          rw [← hl1, ← hc1] at HT1 ha1 tw2
          have ha2 := fun W => add64_0 l1 high W
          obtain ⟨s1, hs1⟩ : ∃ v, v = (l1 + high) % 18446744073709551616 := ⟨_, rfl⟩
          obtain ⟨d1, hd1⟩ : ∃ v, v = (l1 + high) / 18446744073709551616 := ⟨_, rfl⟩
          rw [← hs1, ← hd1] at HT1 ha2
          rw [← hd1] at tw2
          have hs1l : s1 < 18446744073709551616 := by rw [hs1]; omega
          clear hlo hhi hl1 hc1 hs1 hd1
          go_wp2_with (go_at_call 139; refine (HM.out _).mono ?_; rintro e w1 ⟨rfl, rfl⟩)
          go_roundw
          case rel =>
            refine ⟨q + 1, hi + c1 + d1, by omega, by go_num, by go_num, tw2, ⟨upd f (k + q) s1, ?_, ?_, ?_, ?_⟩, ?_, ?_⟩
            · refine (HF1.out.row.set (k + q) _ rfl).congr fun i _ => ?_
              by_cases e : i = k + q
              · rw [if_pos e, e, upd_same]
              · rw [if_neg e, upd_other f s1 e]
            · intro j
              by_cases e : j = k + q
              · rw [e, upd_same]; exact hs1l
              · rw [upd_other f s1 e]; exact HF1.out.lt j
            · exact times_inner (by omega) HF1.out.val HT1.out
            · intro j hj
              rw [upd_other f s1 (by omega)]; exact HF1.out.zero j hj
            · exact HB1.out.setCell (p := ⟨w.heap.size, k + q, none⟩) (Nat.le_refl _) _
            · have := HS1.out; simpa [World.setCell] using this
          case measure => simp [intOf]; omega
        · obtain rfl : q = m := by omega
          have hcs := Row.cell HF1.out.row (i := k + q) (by omega)
          have hfr := Row.frozen HF1.out.row (k + q)
          go_wp2
          go_roundw
          case rel =>
            refine ⟨k + 1, by omega, by go_num, ⟨upd f (k + q) high, ?_, ?_, ?_, ?_⟩, ?_, ?_⟩
            · refine (HF1.out.row.set (k + q) _ rfl).congr fun i _ => ?_
              by_cases e : i = k + q
              · rw [if_pos e, e, upd_same]
              · rw [if_neg e, upd_other f high e]
            · intro j
              by_cases e : j = k + q
              · rw [e, upd_same]; exact hh
              · rw [upd_other f high e]; exact HF1.out.lt j
            · rw [Nat.zero_mul, Nat.add_zero]
              have hv := HF1.out.val
              rw [nval_word_lt HU.out] at hv
              exact times_outer (by omega) (HF1.out.zero _ (Nat.le_refl _)) hv
            · intro j hj
              rw [upd_other f high (by omega)]; exact HF1.out.zero j (by omega)
            · exact HB1.out.setCell (p := ⟨w.heap.size, k + q, none⟩) (Nat.le_refl _) _
            · have := HS1.out; simpa [World.setCell] using this
          case measure => simp [intOf]; omega
    · obtain rfl : k = n := by omega
      go_wp2
      go_ret
      refine ⟨rfl, ?_, HB.out, HS.out⟩
      have hv := HF.out.val
      rw [Nat.zero_mul, Nat.add_zero, nval_word_lt HV.out] at hv
      refine (HF.out.row).congr fun i hi => ?_
      rw [← hv, word_nval (fun j _ => HF.out.lt j) i hi]
end Go.Proofs.YtoolanjbmbcaiaaGreatDoor
namespace Go.Proofs.YtoolanjbmbcaiaaGreatDoor
open Go.RowKit Bf
attribute [local go_sem ↓] Go.wp_at_zero Go.wp_at_succ

theorem word_at (b n c i V : Nat) (w : World) (hV : V < 18446744073709551616 ^ n) (h : i < n → w.cell? ⟨b, i, none⟩ = some (.int .u64 (word V i : Int))) :
    Calls Tryz.prog 134 #[.slice (some ⟨b, 0, none⟩) n c, .int .i64 i] w fun e w' => e = .returned (.int .u64 (word V i : Int)) ∧ w = w' := by
  by_cases hi : i < n
  · exact word_in b n c i _ w hi (h hi)
  · have e : word V i = 0 := word_of_lt (Nat.lt_of_lt_of_le hV (Nat.pow_le_pow_right (by omega) (by omega)))
    rw [e]
    exact word_out _ n c i w (by omega)

theorem shift_store (V s k : Nat) : bits .or .u64 ((word V (k + s / 64) : Int) / 2 ^ (s % 64)) (IntKind.u64.wrap ((word V (k + s / 64 + 1) : Int) * 2 ^ (64 - s % 64))) = ((word (V / 2 ^ s) k : Nat) : Int) := by
  rw [shift_word V s k]
  have h1 := word_lt V (k + s / 64)
  generalize word V (k + s / 64) = a at *
  generalize word V (k + s / 64 + 1) = b at *
  have e1 : (a : Int) / 2 ^ (s % 64) = ((a >>> (s % 64) : Nat) : Int) := by rw [Nat.shiftRight_eq_div_pow]; simp
  have e2 : IntKind.u64.wrap ((b : Int) * 2 ^ (64 - s % 64)) = (((b <<< (64 - s % 64)) % 18446744073709551616 : Nat) : Int) := by
    rw [Nat.shiftLeft_eq, IntKind.wrap_u64]
    have : (b : Int) * 2 ^ (64 - s % 64) = ((b * 2 ^ (64 - s % 64) : Nat) : Int) := by simp
    rw [this]; omega
  rw [e1, e2, bits_or_u64_nat _ _ ?_ (Nat.mod_lt _ (by omega))]
  rw [Nat.shiftRight_eq_div_pow]
  exact Nat.lt_of_le_of_lt (Nat.div_le_self _ _) h1

theorem mix_set {w : World} {g N k : Nat} {F f : Nat → Nat} (h : Row w g N (mix k F f)) (v : Int) (hv : v = (F k : Int)) : Row (w.setCell ⟨g, k, none⟩ (.int .u64 v)) g N (mix (k + 1) F f) := by
  refine (h.set k v hv).congr fun i _ => ?_
  by_cases e : i = k
  · rw [if_pos e, e]; simp [mix]
  · rw [if_neg e]
    have : (i < k + 1) = (i < k) := by apply propext; omega
    simp [mix, this]
theorem grown_set {a w : World} {g : Nat} (h : a.grownBy w (some g)) (k : Nat) (u : Value) : a.grownBy (w.setCell ⟨g, k, none⟩ u) (some g) :=
  ⟨h.os, h.tape, h.output, by have := h.size; simpa [World.setCell] using this, fun i hi hne => (Below.heap_setCell _ _ _ _ (by simp at hne ⊢; omega)).trans (h.block i hi hne)⟩
theorem grown_drew {a w : World} {row : Option Nat} (h : a.grownBy w row) : a.grownBy w.drew row := ⟨h.os, h.tape, h.output, h.size, h.block⟩

set_option maxRecDepth 100000 in
set_option maxHeartbeats 2000000 in
theorem shift_any (g N n c V s : Nat) (f : Nat → Nat) (w : World) (hV : V < 18446744073709551616 ^ n) (hf : ∀ j, j < n → f j = word V j) (hN : n ≤ N) (hn : n ≤ 65536) (hc : n ≤ c) (hs : s ≤ 4194304) (hg : Row w g N f) :
    Calls Tryz.prog 93 #[.slice (some ⟨g, 0, none⟩) n c, .int .i64 s] w fun e w' => e = .returned (.slice (some ⟨g, 0, none⟩) (wlen (V / 2 ^ s)) c) ∧ Row w' g N (mix n (word (V / 2 ^ s)) f) ∧ w.grownBy w' (some g) ∧ w'.heap.size = w.heap.size := by
  have HV := Lib.hid hV
  have HG := Lib.hid hg
  have HF := Lib.hid hf
  clear hV hg hf
  go_enter Tryz.func93, Tryz.ntmps93
  go_wp2
  go_loopw [14] (fun i wr => ∃ k : Nat, k ≤ n ∧ i = .int .i64 k ∧ Row wr g N (mix k (word (V / 2 ^ s)) f) ∧ w.grownBy wr (some g) ∧ wr.heap.size = w.heap.size) (fun i _ => n - (intOf i).toNat)
  case atStart =>
    refine ⟨0, Nat.zero_le _, rfl, ?_, World.grownBy.refl _ _, rfl⟩
    exact (HG.out).congr fun i _ => by simp [mix]
  case round =>
    obtain ⟨k, hk, rfl, hrow, hgr, hsz⟩ := hrel
    have HR := Lib.hid hrow
    have HGR := Lib.hid hgr
    have HS := Lib.hid hsz
    clear hrow hgr hsz
    by_cases hlt : k < n
    · have hcell := Row.cell HR.out (i := k) (by omega)
      have hfr := Row.frozen HR.out k
      have HW := Lib.hid (fun (W : World) (z : Int) (hz : (k : Int) ≤ z) (hW : Row W g N (mix k (word (V / 2 ^ s)) f)) => show Calls Tryz.prog 134 #[.slice (some ⟨g, 0, none⟩) n c, .int .i64 z] W (fun e w' => e = .returned (.int .u64 (word V z.toNat : Int)) ∧ W = w') from by
        obtain ⟨i, rfl⟩ := Int.eq_ofNat_of_zero_le (show 0 ≤ z from by omega)
        rw [Int.toNat_natCast]
        exact word_at g n c i V W HV.out (fun hin => by
          have := Row.cell hW (i := i) (by omega)
          rw [this]
          simp [mix, show ¬ i < k from by omega, HF.out i hin]))
      have e4 : ((k : Int) + (s : Int) / 64).toNat = k + s / 64 := by omega
      have e5 : ((k : Int) + (s : Int) / 64 + 1).toNat = k + s / 64 + 1 := by omega
      have e1 : IntKind.i64.wrap ((k : Int) + (s : Int) / 64) = (k : Int) + (s : Int) / 64 := by rw [IntKind.wrap_i64]; omega
      have e2 : IntKind.i64.wrap ((k : Int) + (s : Int) / 64 + 1) = (k : Int) + (s : Int) / 64 + 1 := by rw [IntKind.wrap_i64]; omega
      have e3 : IntKind.i64.wrap (64 - (s : Int) % 64) = 64 - (s : Int) % 64 := by rw [IntKind.wrap_i64]; omega
      go_wp2_with fail
      go_region_with (go_at_call 134; refine (HW.out _ _ (by omega) (by exact HR.out)).mono ?_; rintro e w1 ⟨rfl, rfl⟩)
      go_wp2
      go_roundw
      case rel =>
        refine ⟨k + 1, by omega, by go_num, Row.drew (mix_set HR.out _ (shift_store V s k)), grown_drew (grown_set HGR.out _ _), ?_⟩
        have := HS.out; simpa [World.setCell] using this
      case measure => simp [intOf]; omega
    · obtain rfl : k = n := by omega
      have hlt' : V / 2 ^ s < 18446744073709551616 ^ k := Nat.lt_of_le_of_lt (Nat.div_le_self _ _) HV.out
      have HT := Lib.hid (trim_any g k c (V / 2 ^ s) wr hlt' (by omega) hc (fun j hj => by
        have := Row.cell HR.out (i := j) (by omega)
        rw [this]; simp [mix, hj]))
      clear hlt'
      go_wp2_with (go_at_call 135; refine HT.out.mono ?_; rintro e w1 ⟨rfl, rfl⟩)
      go_ret
      exact ⟨rfl, HR.out, HGR.out, HS.out⟩
end Go.Proofs.YtoolanjbmbcaiaaGreatDoor
namespace Go.Proofs.YtoolanjbmbcaiaaGreatDoor
open Go.RowKit Bf

/-- The library's contract of math/bits.Len64, at this program's numbers. -/
def lenRen : Go.Shelf.Ren := ⟨fun | 129 => 172 | n => n, fun | 3 => 3 | 4 => 4 | 5 => 5 | 9 => 9 | 46 => 206 | 53 => 131 | n => n, fun n => n⟩
theorem lenLays : Lays.n129 Tryz.prog lenRen := { mixed := by kernel_rfl, f129 := by kernel_rfl, t3 := by kernel_rfl, a3 := fun _ => by kernel_rfl, z3 := fun _ => by kernel_rfl, v3 := fun _ => by kernel_rfl, t4 := by kernel_rfl, a4 := fun _ => by kernel_rfl, z4 := fun _ => by kernel_rfl, v4 := fun _ => by kernel_rfl, t5 := by kernel_rfl, a5 := fun _ => by kernel_rfl, z5 := fun _ => by kernel_rfl, v5 := fun _ => by kernel_rfl, t9 := by kernel_rfl, a9 := fun _ => by kernel_rfl, z9 := fun _ => by kernel_rfl, v9 := fun _ => by kernel_rfl, t46 := by kernel_rfl, a46 := fun _ => by kernel_rfl, z46 := fun _ => by kernel_rfl, v46 := fun _ => by kernel_rfl, t53 := by kernel_rfl, a53 := fun _ => by kernel_rfl, z53 := fun _ => by kernel_rfl, v53 := fun _ => by kernel_rfl }
theorem len64_any (x : Int) (w : World) (h0 : 0 ≤ x) (h1 : x ≤ 18446744073709551615) :
    Calls Tryz.prog 172 #[.int .u64 x] w fun e w' => e = .returned (.int .i64 (Lib.bitLen x.toNat)) ∧ w = w' :=
  (Any.bits_Len64 lenLays x w h0 h1).mono fun _ _ ⟨h, h'⟩ => ⟨h, h'.symm⟩

theorem bitLen_spec {x : Nat} (h0 : x ≠ 0) (h : x < 18446744073709551616) : 1 ≤ Lib.bitLen x ∧ Lib.bitLen x ≤ 64 ∧ 2 ^ (Lib.bitLen x - 1) ≤ x ∧ x < 2 ^ Lib.bitLen x := by
  obtain ⟨a, b, c⟩ := Lib.bitLenAux_bounds 64 x h h0
  exact ⟨a, Lib.bitLen_le x 64 (Nat.le_refl _) h, b, c⟩

theorem lead64_any (x : Nat) (w : World) (h0 : x ≠ 0) (h : x < 18446744073709551616) :
    Calls Tryz.prog 171 #[.int .u64 (x : Int)] w fun e w' => e = .returned (.int .i64 (64 - (Lib.bitLen x : Int))) ∧ w = w' := by
  have HC := Lib.hid (len64_any (x : Int) w (by omega) (by omega))
  rw [Int.toNat_natCast] at HC
  obtain ⟨b1, b2, _, _⟩ := bitLen_spec h0 h
  generalize Lib.bitLen x = L at *
  go_enter Tryz.func171, Tryz.ntmps171
  go_wp2_with (go_at_call 172; refine HC.out.mono ?_; rintro e w1 ⟨rfl, rfl⟩)
  go_ret
  exact ⟨rfl, rfl⟩

/-- The table of math/bits lies in its variable. -/
def Tab (w : World) : Prop := 0 < w.heap.size ∧ ∀ j, j < 64 → w.cell? ⟨0, j, none⟩ = some (.int .u8 ((Lib.deBruijn64tab.getD j 0 : Nat) : Int))

theorem Tab.below {w w' : World} (h : Tab w) (hb : Below w.heap.size w w') : Tab w' :=
  ⟨Nat.lt_of_lt_of_le h.1 hb.size, fun j hj => (hb.cell (p := ⟨0, j, none⟩) h.1).trans (h.2 j hj)⟩
theorem Tab.drewN {w : World} (h : Tab w) (n : Nat) : Tab (w.drewN n) := h
theorem Tab.drew {w : World} (h : Tab w) : Tab w.drew := h

theorem tz64_key (x a : Nat) (hx : x < 18446744073709551616) (hx0 : x ≠ 0) (hlow : x &&& (18446744073709551616 - x) = a) :
    IntKind.u64.wrap (bits BinOp.and IntKind.u64 (x : Int) (IntKind.u64.wrap (-(x : Int))) * 285870213051353865) / 288230376151711744 = ((a * 285870213051353865 % 18446744073709551616 / 288230376151711744 : Nat) : Int) := by
  have e1 : IntKind.u64.wrap (-(x : Int)) = ((18446744073709551616 - x : Nat) : Int) := by rw [IntKind.wrap_u64]; omega
  rw [e1, bits_and_u64_nat x _ hx (by omega), hlow, IntKind.wrap_u64]
  omega

set_option maxHeartbeats 1000000 in
theorem tz64_core (x k idx : Nat) (w : World) (hx0 : ((x : Int) == 0) = false)
    (key : IntKind.u64.wrap (bits BinOp.and IntKind.u64 (x : Int) (IntKind.u64.wrap (-(x : Int))) * 285870213051353865) / 288230376151711744 = (idx : Int))
    (hi : idx < 64) (hk : k < 64) (hcell : w.cell? ⟨0, idx, none⟩ = some (.int .u8 k)) :
    Calls Tryz.prog 133 #[.int .u64 x] w fun e w' => e = .returned (.int .i64 k) ∧ w = w' := by
  go_enter Tryz.func133, Tryz.ntmps133
  go_wp2_with (simp only [key])
  go_ret
  exact ⟨rfl, rfl⟩

theorem ctz_tz {x : Nat} (h0 : x ≠ 0) (h : x < 18446744073709551616) : Lib.ctz 64 x = tz x := by
  obtain ⟨m, hm, _⟩ := Lib.ctzFrom_spec 64 x (by omega) h
  have e : Lib.ctz 64 x = Lib.ctzFrom 64 x := by simp [Lib.ctz, h0]
  rw [e]
  exact (tz_unique hm (by omega)).symm

theorem tz64_any (x : Nat) (w : World) (h0 : x ≠ 0) (h : x < 18446744073709551616) (hT : Tab w) :
    Calls Tryz.prog 133 #[.int .u64 (x : Int)] w fun e w' => e = .returned (.int .i64 (tz x : Int)) ∧ w = w' := by
  obtain ⟨hlow, hk⟩ := Lib.lowest_bit 64 x h0 h
  obtain ⟨hi, htab⟩ := Lib.deBruijn64_at _ hk
  have hcell := hT.2 _ hi
  rw [htab] at hcell
  rw [ctz_tz h0 h] at *
  exact tz64_core x _ _ w (by simp; omega) (tz64_key x _ h h0 hlow) hi hk hcell
end Go.Proofs.YtoolanjbmbcaiaaGreatDoor
namespace Go.Proofs.YtoolanjbmbcaiaaGreatDoor
open Go.RowKit Bf

set_option maxHeartbeats 1000000 in
theorem size_any (b n c V : Nat) (w : World) (hV : Trim n V) (hn : n ≤ 65536) (h : Wds w b n V) :
    Calls Tryz.prog 142 #[.slice (some ⟨b, 0, none⟩) n c] w fun e w' => e = .returned (.int .i64 (nbits V : Int)) ∧ w = w' := by
  rcases Nat.eq_zero_or_pos n with h0 | h0
  · subst h0
    obtain rfl : V = 0 := (trim_zero_iff hV).1 rfl
    clear hV h
    have e : ((nbits 0 : Nat) : Int) = 0 := rfl
    rw [e]
    clear e
    go_enter Tryz.func142, Tryz.ntmps142
    go_wp2
    go_ret
    exact ⟨rfl, rfl⟩
  · obtain ⟨m, rfl⟩ : ∃ m, n = m + 1 := ⟨n - 1, by omega⟩
    have htop := trim_top hV
    have hlt := word_lt V m
    obtain ⟨b1, b2, b3, b4⟩ := bitLen_spec (x := word V m) (by omega) hlt
    have hfin := nbits_top hV.1 b1 b3 b4
    have HF := Lib.hid hfin
    have HC := Lib.hid (len64_any (word V m : Int) w (by omega) (by omega))
    rw [Int.toNat_natCast] at HC
    have hcell := h m (by omega)
    clear hfin h hV b3 b4
    generalize Lib.bitLen (word V m) = L at *
    generalize word V m = x at *
    have e1 : ((m + 1 : Nat) : Int) - 1 = (m : Int) := by omega
    have t0 : (((m + 1 : Nat) : Int) == 0) = false := by simp; omega
    go_enter Tryz.func142, Tryz.ntmps142
    go_wp2_with (go_at_call 172; refine HC.out.mono ?_; rintro e w1 ⟨rfl, rfl⟩)
    go_ret
    refine ⟨?_, rfl⟩
    rw [HF.out, Int.natCast_add, Int.natCast_mul]
    rfl

set_option maxHeartbeats 1000000 in
theorem zeros_any (b n c V : Nat) (w : World) (hV : V < 18446744073709551616 ^ n) (h0 : V ≠ 0) (hn : n ≤ 65536) (h : Wds w b n V) (hT : Tab w) :
    Calls Tryz.prog 91 #[.slice (some ⟨b, 0, none⟩) n c] w fun e w' => e = .returned (.int .i64 (tz V : Int)) ∧ w = w' := by
  have HV := Lib.hid hV
  have H := Lib.hid h
  have HT := Lib.hid hT
  have H0 := Lib.hid h0
  clear hV h hT h0
  go_enter Tryz.func91, Tryz.ntmps91
  go_wp2
  go_loop [3] (fun i => ∃ k : Nat, i = .int .i64 k ∧ k < n ∧ Hid (∀ j, j < k → word V j = 0)) (fun i => n - (intOf i).toNat)
  case atStart =>
    refine ⟨0, rfl, ?_, fun j hj => by omega⟩
    rcases Nat.eq_zero_or_pos n with e | e
    · exfalso; subst e; have := HV.out; have := H0.out; simp at *; omega
    · exact e
  case round =>
    obtain ⟨k, rfl, hk, HZ⟩ := hrel
    have hcell := H.out k hk
    by_cases hz : word V k = 0
    · rw [hz] at hcell
      have hlt : k + 1 < n := by
        rcases Nat.lt_or_ge (k + 1) n with h | h
        · exact h
        · exfalso
          obtain rfl : n = k + 1 := by omega
          have := mod_wpow_zero (V := V) (j := k + 1) (fun i hi => by
            by_cases e : i = k
            · rw [e]; exact hz
            · exact HZ.out i (by omega))
          rw [Nat.mod_eq_of_lt HV.out] at this
          exact H0.out this
      have HZ' : Hid (∀ j, j < k + 1 → word V j = 0) := fun j hj => by
        by_cases e : j = k
        · rw [e]; exact hz
        · exact HZ.out j (by omega)
      clear hz
      go_wp2
      go_round
      case rel => exact ⟨k + 1, by go_num, hlt, HZ'⟩
      case measure => simp [intOf]; omega
    · have HF := Lib.hid (tz_words HZ.out hz)
      have HC := Lib.hid (tz64_any (word V k) w hz (word_lt V k) HT.out)
      have htl := tz_le hz (word_lt V k)
      have t1 : ((word V k : Int) == 0) = false := by simp; omega
      generalize tz (word V k) = t at *
      generalize word V k = x at *
      clear hz
      go_wp2_with (go_at_call 133; refine HC.out.mono ?_; rintro e w1 ⟨rfl, rfl⟩)
      go_ret
      refine ⟨?_, rfl⟩
      rw [HF.out, Int.natCast_add, Int.natCast_mul]
      rfl
end Go.Proofs.YtoolanjbmbcaiaaGreatDoor
namespace Go.Proofs.YtoolanjbmbcaiaaGreatDoor
open Go.RowKit Bf

theorem block_of_add (a : Addr) (n : Nat) : (a.add n).block = a.block := by unfold Addr.add; split <;> rfl
theorem add_of_add (a : Addr) (i j : Nat) : (a.add i).add j = a.add (i + j) := by
  unfold Addr.add
  by_cases hi : i = 0 <;> by_cases hj : j = 0 <;> simp [hi, hj, Nat.add_assoc]

def Reads (w : World) (B size : Nat) (A : Option Addr) (n : Nat) (xs : List Value) : Prop :=
  xs.length = n * size ∧ (0 < n → ∃ ad, A = some ad ∧ ad.block < B ∧ ∀ j u, xs[j]? = some u → w.cell? (ad.add j) = some u)

section
variable {w w' : World} {B B' size n : Nat} {A : Option Addr} {xs : List Value}
theorem Reads.none_ : Reads w B size A 0 [] := ⟨by simp, fun h => absurd h (by omega)⟩
theorem Reads.at_ {k : Nat} (h : Reads w B 1 A n xs) (hk : k < n) : ∃ ad u, A = some ad ∧ ad.block < B ∧ xs[k]? = some u ∧ w.cell? (ad.add k) = some u := by
  obtain ⟨ad, e, hb, hc⟩ := h.2 (by omega)
  have hl : k < xs.length := by have := h.1; omega
  exact ⟨ad, xs[k], e, hb, List.getElem?_eq_getElem hl, hc k _ (List.getElem?_eq_getElem hl)⟩
theorem Reads.keep (h : Reads w B size A n xs) (hk : ∀ p : Addr, p.block < B → w'.cell? p = w.cell? p) : Reads w' B size A n xs :=
  ⟨h.1, fun hn => by
    obtain ⟨ad, e, hb, hc⟩ := h.2 hn
    exact ⟨ad, e, hb, fun j u hu => (hk _ (by rw [block_of_add]; exact hb)).trans (hc j u hu)⟩⟩
theorem Reads.more (h : Reads w B size A n xs) (hB : B ≤ B') : Reads w B' size A n xs :=
  ⟨h.1, fun hn => by
    obtain ⟨ad, e, hb, hc⟩ := h.2 hn
    exact ⟨ad, e, by omega, hc⟩⟩
theorem Reads.below (h : Reads w B size A n xs) (hb : Below B w w') : Reads w' B size A n xs := h.keep fun _ hp => hb.cell hp
theorem Reads.drew (h : Reads w B size A n xs) : Reads w.drew B size A n xs := h
theorem Reads.drewN (h : Reads w B size A n xs) (k : Nat) : Reads (w.drewN k) B size A n xs := h
theorem Reads.alloc (h : Reads w B size A n xs) (hB : B ≤ w.heap.size) (o : Obj) : Reads (w.alloc o) B size A n xs := h.keep fun p hp => World.cell?_alloc_lt w o p (by omega)
theorem Reads.setCell (h : Reads w B size A n xs) {p : Addr} (hB : B ≤ p.block) (u : Value) : Reads (w.setCell p u) B size A n xs :=
  h.keep fun q hq => World.cell?_setCell_other w p q u (fun e => by subst e; omega)
theorem Reads.grown (h : Reads w B size A n xs) {row : Option Nat} (hg : w.grownBy w' row) (hB : B ≤ w.heap.size) (hr : ∀ g, row = some g → B ≤ g) : Reads w' B size A n xs :=
  h.keep fun p hp => World.cell?_of_block (hg.block p.block (by omega) (fun e => by have := hr _ e.symm; omega))
theorem Reads.cut (h : Reads w B size A n xs) {k cap : Nat} (hk : k ≤ n) (hc : n ≤ cap) :
    Reads w B size (if cap = k then A else A.map (·.add (k * size))) (n - k) (xs.drop (k * size)) := by
  refine ⟨by rw [List.length_drop, h.1, Nat.sub_mul], fun hn => ?_⟩
  obtain ⟨ad, rfl, hb, hcell⟩ := h.2 (by omega)
  rw [if_neg (by omega)]
  refine ⟨ad.add (k * size), rfl, by rw [block_of_add]; exact hb, fun j u hu => ?_⟩
  rw [add_of_add]
  exact hcell _ u (by rw [← hu, List.getElem?_drop])
theorem Reads.of_own {base : Nat} {e : TypeId} {c : Nat} (h : w.ownsRow base e size (.slice A n c) n xs) : Reads w w.heap.size size A n xs := by
  refine ⟨h.1, fun hn => ?_⟩
  obtain ⟨g, cap, hv, _, hlt⟩ := h.form hn
  have hA : A = some ⟨g, 0, none⟩ := by injection hv
  subst hA
  exact ⟨_, rfl, hlt, h.cells (g := g) rfl⟩
end
section
variable {P : Program} (w : World)

theorem run_append_of_nil (base : Nat) (t ty e : TypeId) (i : TypeInfo) (size : Nat) (ht : P.underlying t = some (.slice e)) (hi : P.info? e = some i)
    (v : Value) (n : Nat) (xs : List Value) (hown : w.ownsRow base e size v n xs) (c : Nat) : (Builtin.append_ #[t, t] ty #[v, .slice none 0 c]).run P w = .ok v w := by
  rcases hown.2 with ⟨rfl, rfl⟩ | ⟨g, cap, cur, rfl, _, _, hnc, _⟩
  · simp [Builtin.append_, run_underlying ht, sizeOf, typeInfo, hi, Builtin.lenOf, Builtin.firstCells]
  · simp [Builtin.append_, run_underlying ht, sizeOf, typeInfo, hi, Builtin.lenOf, Builtin.firstCells, hnc, storeCells]

theorem run_append_any (base : Nat) (t ty e : TypeId) (i : TypeInfo) (z : Value) (size bytes : Nat) (ht : P.underlying t = some (.slice e)) (hi : P.info? e = some i) (hz : i.zero = some z)
    (hsize : i.size = size) (hby : i.bytes = bytes) (hzs : z.cells.size = size) (hsz : 0 < size)
    (v : Value) (n : Nat) (xs : List Value) (hown : w.ownsRow base e size v n xs)
    (B : Nat) (A : Option Addr) (m c : Nat) (news : List Value) (hr : Reads w B size A m news) (h1 : ∀ u ∈ news, u.oneCell' = true)
    (h63 : n + m ≤ maxLen) (hbytes : (n + m) * bytes ≤ 140737488355328) (hbase : base ≤ w.heap.size) :
    ∃ v' w', (Builtin.append_ #[t, t] ty #[v, .slice A m c]).run P w = .ok v' w' ∧ w'.ownsRow base e size v' (n + m) (xs ++ news) ∧ w.grownBy w' v.ownBlock ∧
      (v'.ownBlock = v.ownBlock ∨ v'.ownBlock = some w.heap.size) := by
  rcases A with _ | ad
  · have hm : m = 0 := by
      rcases Nat.eq_zero_or_pos m with h0 | h0
      · exact h0
      · obtain ⟨ad, h, _⟩ := hr.2 h0
        cases h
    subst hm
    have hn : news = [] := List.eq_nil_of_length_eq_zero (by simpa using hr.1)
    subst hn
    exact ⟨v, w, run_append_of_nil w base t ty e i size ht hi v n xs hown c, by simpa using hown, World.grownBy.refl w _, .inl rfl⟩
  · have hcells : ∀ j u, news[j]? = some u → w.cell? (ad.add j) = some u := by
      intro j u hu
      rcases Nat.eq_zero_or_pos m with h0 | h0
      · subst h0
        have hn : news = [] := List.eq_nil_of_length_eq_zero (by simpa using hr.1)
        subst hn
        simp at hu
      · obtain ⟨ad', h, _, hc⟩ := hr.2 h0
        injection h with h
        subst h
        exact hc j u hu
    obtain ⟨v', w', hrun, h2, h3, _, h5⟩ := run_append_own_at (P := P) w base t ty e i z size bytes ht hi hz hsize hby hzs hsz v n xs hown ad m c news hr.1 hcells h1 h63 hbytes hbase
    exact ⟨v', w', hrun, h2, h3, h5⟩

theorem wp_append_any {o : Oper} {a : Act} {K : Act → World → Prop} {Q : Exit → Act → World → Prop} (s x : Operand) (t : TypeId)
    (ho : o.op = .call { callee := .builtin .append, args := #[s, x], argTypes := #[t, t] })
    (base : Nat) (e : TypeId) (i : TypeInfo) (z : Value) (size bytes : Nat) (ht : P.underlying t = some (.slice e)) (hi : P.info? e = some i) (hz : i.zero = some z)
    (hsize : i.size = size) (hby : i.bytes = bytes) (hzs : z.cells.size = size) (hsz : 0 < size)
    (v : Value) (n : Nat) (xs : List Value) (hs : a.eval s = v) (hown : w.ownsRow base e size v n xs)
    (B : Nat) (A : Option Addr) (m c : Nat) (news : List Value) (hx : a.eval x = .slice A m c) (hr : Reads w B size A m news) (h1 : ∀ u ∈ news, u.oneCell' = true)
    (h63 : n + m ≤ maxLen) (hbytes : (n + m) * bytes ≤ 140737488355328) (hbase : base ≤ w.heap.size)
    (h : ∀ v' w', w'.ownsRow base e size v' (n + m) (xs ++ news) → w.grownBy w' v.ownBlock → (v'.ownBlock = v.ownBlock ∨ v'.ownBlock = some w.heap.size) → K (a.put o.dst v') w') : o.wp P a w K Q := by
  obtain ⟨v', w', hrun, h2, h3, h4⟩ := run_append_any (P := P) w base t o.type e i z size bytes ht hi hz hsize hby hzs hsz v n xs hown B A m c news hr h1 h63 hbytes hbase
  unfold Oper.wp execOp
  simp only [ho, resolve, invoke, builtin, Sem.run_bind, Sem.run_pure, Result.andThen_ok, List.map_toArray, List.map_cons, List.map_nil, hs, hx, hrun]
  exact h v' w' h2 h3 h4

theorem wpList_append_any {ops : Array Oper} {rest : List Oper} {o : Oper} {a : Act} {Q : Exit → Act → World → Prop} (hgd : o.guard = none) (s x : Operand) (t : TypeId)
    (ho : o.op = .call { callee := .builtin .append, args := #[s, x], argTypes := #[t, t] })
    (base : Nat) (e : TypeId) (i : TypeInfo) (z : Value) (size bytes : Nat) (ht : P.underlying t = some (.slice e)) (hi : P.info? e = some i) (hz : i.zero = some z)
    (hsize : i.size = size) (hby : i.bytes = bytes) (hzs : z.cells.size = size) (hsz : 0 < size)
    (v : Value) (n : Nat) (xs : List Value) (hs : a.eval s = v) (hown : w.ownsRow base e size v n xs)
    (B : Nat) (A : Option Addr) (m c : Nat) (news : List Value) (hx : a.eval x = .slice A m c) (hr : Reads w B size A m news) (h1 : ∀ u ∈ news, u.oneCell' = true)
    (h63 : n + m ≤ maxLen) (hbytes : (n + m) * bytes ≤ 140737488355328) (hbase : base ≤ w.heap.size)
    (h : ∀ v' w', w'.ownsRow base e size v' (n + m) (xs ++ news) → w.grownBy w' v.ownBlock → (v'.ownBlock = v.ownBlock ∨ v'.ownBlock = some w.heap.size) → wpList P ops Q rest (a.put o.dst v') w') : wpList P ops Q (o :: rest) a w :=
  wpList_plain hgd fun _ hK => wp_append_any w s x t ho base e i z size bytes ht hi hz hsize hby hzs hsz v n xs hs hown B A m c news hx hr h1 h63 hbytes hbase fun v' w' h2 h3 h4 => hK _ _ (h v' w' h2 h3 h4)

theorem step_append_any {ops : Array Oper} {o : Oper} {a : Act} {K : Act → World → Prop} {Q : Exit → Act → World → Prop} {E : Prop} (hgd : o.guard = none) (s x : Operand) (t : TypeId)
    (ho : o.op = .call { callee := .builtin .append, args := #[s, x], argTypes := #[t, t] })
    (base : Nat) (e : TypeId) (i : TypeInfo) (z : Value) (size bytes : Nat) (ht : P.underlying t = some (.slice e)) (hi : P.info? e = some i) (hz : i.zero = some z)
    (hsize : i.size = size) (hby : i.bytes = bytes) (hzs : z.cells.size = size) (hsz : 0 < size)
    (v : Value) (n : Nat) (xs : List Value) (hs : a.eval s = v) (hown : w.ownsRow base e size v n xs)
    (B : Nat) (A : Option Addr) (m c : Nat) (news : List Value) (hx : a.eval x = .slice A m c) (hr : Reads w B size A m news) (h1 : ∀ u ∈ news, u.oneCell' = true)
    (h63 : n + m ≤ maxLen) (hbytes : (n + m) * bytes ≤ 140737488355328) (hbase : base ≤ w.heap.size)
    (h : ∀ v' w', w'.ownsRow base e size v' (n + m) (xs ++ news) → w.grownBy w' v.ownBlock → (v'.ownBlock = v.ownBlock ∨ v'.ownBlock = some w.heap.size) → K (a.put o.dst v') w') :
    if Region.wanted o (yielded ops a.tmps) = true then Oper.wp P o a w K Q else E := by
  have hw : Region.wanted o (yielded ops a.tmps) = true := by simp [Region.wanted, hgd]
  rw [if_pos hw]
  exact wp_append_any w s x t ho base e i z size bytes ht hi hz hsize hby hzs hsz v n xs hs hown B A m c news hx hr h1 h63 hbytes hbase h
end

theorem reads_of_wds {w : World} {b n V : Nat} (hb : b < w.heap.size) (h : Wds w b n V) : Reads w w.heap.size 1 (some ⟨b, 0, none⟩) n ((List.range n).map fun j => Value.int .u64 (word V j : Int)) := by
  refine ⟨by simp, fun _ => ⟨_, rfl, hb, fun j u hu => ?_⟩⟩
  have hj : j < n := by
    have := (List.getElem?_eq_some_iff.1 hu).1
    simpa using this
  have e : (⟨b, 0, none⟩ : Addr).add j = ⟨b, j, none⟩ := by unfold Addr.add; split <;> simp_all
  rw [e, h j hj]
  simpa [hj] using hu

theorem row_of_owns {w : World} {base n V : Nat} {v : Value} (h : w.ownsRow base 131 1 v n ((List.range n).map fun j => Value.int .u64 (word V j : Int))) (hv : v ≠ .slice none 0 0) :
    ∃ g cap, v = .slice (some ⟨g, 0, none⟩) n cap ∧ base ≤ g ∧ n ≤ cap ∧ Row w g n (word V) := by
  rcases h.2 with ⟨rfl, _⟩ | ⟨g, cap, cur, rfl, h1, h2, h3, _, h5, h6⟩
  · exact absurd rfl hv
  · refine ⟨g, cap, rfl, h1, h3, cur, h2, by omega, fun i hi => ?_⟩
    have : (cur.toList.take (n * 1))[i]? = some (.int .u64 (word V i : Int)) := by rw [h6]; simp [hi]
    rw [List.getElem?_take, if_pos (by omega)] at this
    simpa using this

set_option maxRecDepth 100000 in
set_option maxHeartbeats 1000000 in
theorem clone_any (b n c V : Nat) (w : World) (hn : n ≤ 65536) (hb : b < w.heap.size) (h : Wds w b n V) :
    Calls Tryz.prog 92 #[.slice (some ⟨b, 0, none⟩) n c] w fun e w' => ∃ g cap, e = .returned (.slice (some ⟨g, 0, none⟩) n cap) ∧ w.heap.size ≤ g ∧ n ≤ cap ∧ Row w' g n (word V) ∧ Below w.heap.size w w' := by
  obtain ⟨i0, hi0, hz0, hz1, hz2⟩ := info_parts u64_info
  have H := Lib.hid h
  clear h
  have heq : ∀ W : World, (binOp .eql 99 (.slice (some ⟨b, 0, none⟩) n c) (.slice none 0 0)).run Tryz.prog W = .ok (.bool false) W := fun W => by
    have := Lib.run_eql_slice_nil (P := Tryz.prog) W 99 131 (some ⟨b, 0, none⟩) n c 0 0 Tryz.underlying99
    simpa using this
  go_enter Tryz.func92, Tryz.ntmps92
  go_wp2_with (at_builtin; refine wpList_append_any _ rfl _ _ _ rfl w.heap.size 131 i0 _ 1 8 Tryz.underlying99 hi0 hz0 hz1 hz2 rfl (by omega) (.slice (some ⟨w.heap.size, 0, none⟩) 0 0) 0 [] rfl ?_ (w.heap.size + 1) (some ⟨b, 0, none⟩) n c ((List.range n).map fun j => Value.int .u64 (word V j : Int)) rfl ?_ ?_ ?_ ?_ ?_ ?_)
  · exact ⟨rfl, .inr ⟨_, _, #[], rfl, Nat.le_refl _, heap_alloc_new w _, Nat.le_refl _, by simp [maxLen], rfl, rfl⟩⟩
  · exact ((reads_of_wds hb H.out).alloc (Nat.le_refl _) _).more (by omega)
  · intro u hu; simp at hu; obtain ⟨_, _, rfl⟩ := hu; rfl
  · simp only [maxLen]; omega
  · omega
  · simp
  · intro v' w1 hown hg hat
    have hne : v' ≠ .slice none 0 0 := by
      rintro rfl
      rcases hat with e | e <;> simp [Value.ownBlock] at e
    obtain ⟨g, cap, rfl, h1, h2, h3⟩ := row_of_owns hown hne
    have HR := Lib.hid h3
    have HB := Lib.hid (((Below.refl w.heap.size w).alloc (Nat.le_refl _) (.cells #[] 131)).grown hg (by simp) (by simp [Value.ownBlock]))
    clear hown hg hat h3 hne
    go_wp2
    go_ret
    exact ⟨g, cap, rfl, h1, h2, HR.out, HB.out⟩
end Go.Proofs.YtoolanjbmbcaiaaGreatDoor
namespace Go.Proofs.YtoolanjbmbcaiaaGreatDoor
open Go.RowKit Bf

theorem Wds.below {w w' : World} {b n V B : Nat} (h : Wds w b n V) (hb : Below B w w') (hB : b < B) : Wds w' b n V := fun j hj => (hb.cell (p := ⟨b, j, none⟩) hB).trans (h j hj)
theorem Wds.grown {w w' : World} {b n V : Nat} {row : Option Nat} (h : Wds w b n V) (hg : w.grownBy w' row) (hr : some b ≠ row) : Wds w' b n V := fun j hj => hg.cell (h j hj) hr
theorem Row.wds_of {w : World} {b N n V : Nat} {f : Nat → Nat} (h : Row w b N f) (hn : n ≤ N) (hf : ∀ j, j < n → f j = word V j) : Wds w b n V := fun j hj => by rw [h.cell (by omega), hf j hj]
theorem below_of_grown {w w' w'' : World} {g B : Nat} (h : Below B w w') (hg : w'.grownBy w'' (some g)) (hB : B ≤ g) (hs : B ≤ w'.heap.size) : Below B w w'' := h.grown hg hs (fun k e => by cases e; exact hB)
theorem Tab.grown {w w' : World} {g : Nat} (h : Tab w) (hg : w.grownBy w' (some g)) (hne : 0 ≠ g) : Tab w' :=
  ⟨Nat.lt_of_lt_of_le h.1 hg.size, fun j hj => hg.cell (h.2 j hj) (by simp; exact hne)⟩

/-- What a function that makes a number of words leaves: the slice v has the words of V, in new memory or old. -/
def NumAt (w' : World) (v : Value) (V : Nat) : Prop := ∃ g k cap, v = .slice (some ⟨g, 0, none⟩) k cap ∧ V < 18446744073709551616 ^ k ∧ k ≤ 65536 ∧ k ≤ cap ∧ g < w'.heap.size ∧ Wds w' g k V

def DivisorPost (w : World) (G : Nat) (e : Ending) (w' : World) : Prop := ∃ v, e = .returned v ∧ NumAt w' v G ∧ Below w.heap.size w w'

set_option maxHeartbeats 1000000 in
theorem divisor_a0 (b b' m c c' U : Nat) (w : World) (hU : U < 18446744073709551616 ^ m) (hm : m ≤ 65536) (hc : m ≤ c') (hb : b' < w.heap.size) (h' : Wds w b' m U) :
    Calls Tryz.prog 61 #[.slice (some ⟨b, 0, none⟩) 0 c, .slice (some ⟨b', 0, none⟩) m c'] w (DivisorPost w U) := by
  have H := Lib.hid (show NumAt w (.slice (some ⟨b', 0, none⟩) m c') U from ⟨_, _, _, rfl, hU, hm, hc, hb, h'⟩)
  clear hU h'
  go_enter Tryz.func61, Tryz.ntmps61
  go_wp2
  go_ret
  exact ⟨_, rfl, H.out, Below.refl _ _⟩

set_option maxHeartbeats 1000000 in
theorem divisor_b0 (b b' n c c' V : Nat) (w : World) (hV : V < 18446744073709551616 ^ n) (hn : n ≤ 65536) (hc : n ≤ c) (hb : b < w.heap.size) (hb' : b' < w.heap.size) (h : Wds w b n V) :
    Calls Tryz.prog 61 #[.slice (some ⟨b, 0, none⟩) n c, .slice (some ⟨b', 0, none⟩) 0 c'] w (DivisorPost w (Nat.gcd V 0)) := by
  rw [Nat.gcd_zero_right]
  have H := Lib.hid (show NumAt w (.slice (some ⟨b, 0, none⟩) n c) V from ⟨_, _, _, rfl, hV, hn, hc, hb, h⟩)
  rcases Nat.eq_zero_or_pos n with h0 | h0
  · subst h0
    have hz : V = 0 := by simpa using hV
    subst hz
    exact (divisor_a0 b b' 0 c c' 0 w (by simp) (by omega) (by omega) hb' (fun j hj => by omega)).mono fun _ _ h => h
  · have t0 : ((n : Int) == 0) = false := by simp; omega
    clear hV h
    go_enter Tryz.func61, Tryz.ntmps61
    go_wp2
    go_ret
    exact ⟨_, rfl, H.out, Below.refl _ _⟩

set_option maxHeartbeats 1000000 in
theorem divisor_one (b b' c c' V U : Nat) (w : World) (hV : V < 18446744073709551616) (hU : U < 18446744073709551616) (h : Wds w b 1 V) (h' : Wds w b' 1 U) :
    Calls Tryz.prog 61 #[.slice (some ⟨b, 0, none⟩) 1 c, .slice (some ⟨b', 0, none⟩) 1 c'] w (DivisorPost w (Nat.gcd V U)) := by
  have hc1 := h 0 (by omega)
  have hc2 := h' 0 (by omega)
  rw [word_zero, Nat.mod_eq_of_lt hV] at hc1
  rw [word_zero, Nat.mod_eq_of_lt hU] at hc2
  clear h h'
  go_enter Tryz.func61, Tryz.ntmps61
  go_wp2
  go_quiet (fail)
  go_wp2
  go_loopw [5, 6] (fun x y wr => ∃ a b : Nat, x = .int .u64 (a : Int) ∧ y = .int .u64 (b : Int) ∧ a < 18446744073709551616 ∧ b < 18446744073709551616 ∧ Hid (Nat.gcd a b = Nat.gcd V U) ∧ Below w.heap.size w wr) (fun _ y _ => (intOf y).toNat)
  case atStart => exact ⟨V, U, rfl, rfl, hV, hU, rfl, ⟨rfl, rfl, rfl, Nat.le_refl _, fun _ _ => rfl⟩⟩
  case round =>
    obtain ⟨x, y, rfl, rfl, hx, hy, HG, hbel⟩ := hrel
    have HB := Lib.hid hbel
    clear hbel hc1 hc2
    by_cases hy0 : y = 0
    · subst hy0
      clear hy
      go_wp2
      go_ret
      have hg := HG.out
      rw [Nat.gcd_zero_right] at hg
      rw [← hg]
      refine ⟨_, rfl, ⟨wr.heap.size, 1, 1, rfl, by simpa using hx, by omega, Nat.le_refl _, by simp, fun j hj => ?_⟩, HB.out.alloc HB.out.size _⟩
      obtain rfl : j = 0 := by omega
      rw [word_zero, Nat.mod_eq_of_lt hx]
      simp [go_sem]
    · have t1 : ((y : Int) != 0) = true := by simp; omega
      have t2 : 1 ≤ (y : Int) := by omega
      go_wp2
      go_quiet (fail)
      go_wp2
      go_roundw
      case rel =>
        refine ⟨y, x % y, rfl, by rw [Int.natCast_emod], hy, Nat.lt_of_le_of_lt (Nat.le_of_lt (Nat.mod_lt _ (by omega))) hy, ?_, ?_⟩
        · show Nat.gcd y (x % y) = _
          rw [← HG.out, Nat.gcd_comm y, ← Nat.gcd_rec, Nat.gcd_comm]
        · exact ⟨HB.out.os, HB.out.tape, HB.out.output, HB.out.size, HB.out.block⟩
      case measure =>
        simp [intOf]
        exact Nat.mod_lt _ (by omega)
end Go.Proofs.YtoolanjbmbcaiaaGreatDoor
namespace Go.Proofs.YtoolanjbmbcaiaaGreatDoor
open Go.RowKit Bf

/-- The state of the loop: two odd numbers in blocks of the call's own; their greatest common divisor is G. -/
def GcdSt (w wr : World) (G k : Nat) (va vb : Value) : Prop := ∃ ga gb na nb ca cb A B, va = .slice (some ⟨ga, 0, none⟩) na ca ∧ vb = .slice (some ⟨gb, 0, none⟩) nb cb ∧ A + B ≤ k ∧
  ga ≠ gb ∧ w.heap.size ≤ ga ∧ w.heap.size ≤ gb ∧ na ≤ 4096 ∧ nb ≤ 4096 ∧ na ≤ ca ∧ nb ≤ cb ∧ Row wr ga na (word A) ∧ Row wr gb nb (word B) ∧ Trim na A ∧ Trim nb B ∧ A % 2 = 1 ∧ B % 2 = 1 ∧ Nat.gcd A B = G ∧ Below w.heap.size w wr ∧ Tab wr

/-- One step: the greater number becomes the odd part of the difference. -/
theorem gcd_step {A B : Nat} (h : B < A) (hA : A % 2 = 1) (hB : B % 2 = 1) : A - B ≠ 0 ∧ ((A - B) / 2 ^ tz (A - B)) % 2 = 1 ∧ Nat.gcd ((A - B) / 2 ^ tz (A - B)) B = Nat.gcd A B ∧ (A - B) / 2 ^ tz (A - B) + B < A + B := by
  have h0 : 0 < A - B := by omega
  obtain ⟨e, o⟩ := tz_spec h0
  have ht : 1 ≤ tz (A - B) := by
    rcases Nat.eq_zero_or_pos (tz (A - B)) with h | h
    · rw [h] at o e; simp at o; omega
    · exact h
  have hle : (A - B) / 2 ^ tz (A - B) ≤ A - B := Nat.div_le_self _ _
  refine ⟨by omega, o, ?_, ?_⟩
  · rw [← gcd_sub_step (Nat.le_of_lt h)]
    generalize (A - B) / 2 ^ tz (A - B) = m at *
    generalize tz (A - B) = t at *
    rw [← e, Nat.gcd_comm, Nat.gcd_comm _ B, odd_gcd_two_pow hB]
  · omega

theorem trim_of_div {n V s : Nat} (h : V < 18446744073709551616 ^ n) : Trim (wlen (V / 2 ^ s)) (V / 2 ^ s) ∧ wlen (V / 2 ^ s) ≤ n := by
  have h' : V / 2 ^ s < 18446744073709551616 ^ n := Nat.lt_of_le_of_lt (Nat.div_le_self _ _) h
  exact ⟨wlen_trim _, wlen_le h'⟩

theorem tz_lt_of {n V : Nat} (h : V < 18446744073709551616 ^ n) (h0 : V ≠ 0) : tz V ≤ 64 * n := by
  obtain ⟨e, o⟩ := tz_spec (n := V) (by omega)
  generalize V / 2 ^ tz V = m at *
  generalize tz V = t at *
  rcases Nat.lt_or_ge (64 * n) t with hl | hg
  · exfalso
    rw [wpow_two] at h
    have h1 : 2 ^ (64 * n) ≤ 2 ^ t := Nat.pow_le_pow_right (by omega) (by omega)
    have h2 : 2 ^ t * 1 ≤ 2 ^ t * m := Nat.mul_le_mul_left _ (by omega)
    omega
  · exact hg

theorem word_pow (t j : Nat) : word (2 ^ t) j = if j = t / 64 then 2 ^ (t % 64) else 0 := by
  apply Nat.eq_of_testBit_eq
  intro i
  rw [testBit_word, Nat.testBit_two_pow]
  by_cases e : j = t / 64
  · rw [if_pos e, Nat.testBit_two_pow]
    by_cases hi : i < 64
    · simp only [hi, decide_true, Bool.true_and, decide_eq_decide]; omega
    · have : ¬ t % 64 = i := by omega
      simp [hi, this]
  · rw [if_neg e, Nat.zero_testBit]
    have : ¬ (i < 64 ∧ t = 64 * j + i) := by omega
    simpa [Bool.and_eq_false_iff, Classical.not_and_iff_not_or_not] using this
theorem pow_lt_words (t : Nat) : 2 ^ t < 18446744073709551616 ^ (t / 64 + 1) := by
  rw [wpow_two]; exact Nat.pow_lt_pow_right (by omega) (by omega)

theorem power_row (w : World) (t : Nat) : Row (w.alloc (.cells ((madeCells #[.int .u64 0] (t / 64 + 1)).setIfInBounds (t / 64) (.int .u64 (IntKind.u64.wrap (2 ^ (t % 64))))) 131)) w.heap.size (t / 64 + 1) (word (2 ^ t)) := by
  refine ⟨_, heap_alloc_new w _, by simp [size_madeCells], fun i hi => ?_⟩
  have hv : IntKind.u64.wrap (2 ^ (t % 64)) = ((2 ^ (t % 64) : Nat) : Int) := by
    have h : 2 ^ (t % 64) ≤ 2 ^ 63 := Nat.pow_le_pow_right (by omega) (by omega)
    rw [IntKind.wrap_u64, show (2 : Int) ^ (t % 64) = ((2 ^ (t % 64) : Nat) : Int) from by simp]
    generalize 2 ^ (t % 64) = p at *
    omega
  rw [hv, Array.getElem?_setIfInBounds, word_pow]
  by_cases e : t / 64 = i
  · rw [if_pos e, if_pos e.symm, size_madeCells, if_pos (by omega)]
  · rw [if_neg e, if_neg (fun h => e h.symm)]
    simp [madeCells, hi, Nat.mod_one]

set_option maxRecDepth 100000 in
set_option maxHeartbeats 4000000 in
theorem divisor_many (b b' n m c c' V U : Nat) (w : World) (hV : Trim n V) (hU : Trim m U) (hn : n ≤ 4096) (hm : m ≤ 4096) (h0 : 1 ≤ n) (h0' : 1 ≤ m) (h1 : ¬ (n = 1 ∧ m = 1)) (hb : b < w.heap.size) (hb' : b' < w.heap.size) (h : Wds w b n V) (h' : Wds w b' m U) (hT : Tab w) :
    Calls Tryz.prog 61 #[.slice (some ⟨b, 0, none⟩) n c, .slice (some ⟨b', 0, none⟩) m c'] w (DivisorPost w (Nat.gcd V U)) := by
  have V0 : V ≠ 0 := fun e => by have := (trim_zero_iff hV).2 e; omega
  have U0 : U ≠ 0 := fun e => by have := (trim_zero_iff hU).2 e; omega
  obtain ⟨eV, oV⟩ := tz_spec (n := V) (by omega)
  obtain ⟨eU, oU⟩ := tz_spec (n := U) (by omega)
  have lV := tz_lt_of hV.1 V0
  have lU := tz_lt_of hU.1 U0
  have hG : Nat.gcd V U = 2 ^ min (tz V) (tz U) * Nat.gcd (V / 2 ^ tz V) (U / 2 ^ tz U) := by
    rw [← gcd_two_pows oV oU, eV, eU]
  have HG := Lib.hid hG
  have HV := Lib.hid hV
  have HU := Lib.hid hU
  have H := Lib.hid h
  have H' := Lib.hid h'
  have HT := Lib.hid hT
  have HoV := Lib.hid oV
  have HoU := Lib.hid oU
  have HV0 := Lib.hid V0
  have HU0 := Lib.hid U0
  clear hG hV hU h h' hT V0 U0 eV eU oV oU
  have t0 : ((n : Int) == 0) = false := by simp; omega
  have t0' : ((m : Int) == 0) = false := by simp; omega
  have hcase : (((n : Int) == 1) = false) ∨ (((n : Int) == 1) = true ∧ ((m : Int) == 1) = false) := by
    by_cases e : n = 1
    · refine .inr ⟨by simp [e], ?_⟩
      have : m ≠ 1 := fun e' => h1 ⟨e, e'⟩
      simp; omega
    · refine .inl ?_
      simp; omega
  clear h1
  rcases hcase with t1 | ⟨t1, t1'⟩
  all_goals
    go_enter Tryz.func61, Tryz.ntmps61
    go_wp2_with fail
    refine (zeros_any b n c V w HV.out.1 HV0.out (by omega) H.out HT.out).mono ?_
    rintro e w1 ⟨rfl, rfl⟩
    go_wp2_with fail
    refine (zeros_any b' m c' U w HU.out.1 HU0.out (by omega) H'.out HT.out).mono ?_
    rintro e w1 ⟨rfl, rfl⟩
    go_wp2_with fail
    refine (clone_any b n c V w (by omega) hb H.out).mono ?_
    rintro e w1 ⟨ga, ca, rfl, hga, hca, hra, hb1⟩
    have HRA := Lib.hid hra
    have HB1 := Lib.hid hb1
    have hw1 := hb1.size
    have hgal := hra.lt
    clear hra hb1
    go_wp2_with fail
    refine (clone_any b' m c' U w1 (by omega) (by omega) (H'.out.below HB1.out hb')).mono ?_
    rintro e w2 ⟨gb, cb, rfl, hgb, hcb, hrb, hb2⟩
    have HRB := Lib.hid hrb
    have HB2 := Lib.hid (HB1.out.trans (hb2.mono hw1))
    have HRA2 := Lib.hid (HRA.out.below hb2 hgal)
    have hw2 := hb2.size
    have hgbl := hrb.lt
    clear hrb hb2
    have hab : ga ≠ gb := by omega
    have HT2 := Lib.hid (HT.out.below HB2.out)
    go_wp2_with fail
    refine (zeros_any ga n ca V w2 HV.out.1 HV0.out (by omega) HRA2.out.wds HT2.out).mono ?_
    rintro e w3 ⟨rfl, rfl⟩
    go_wp2_with fail
    refine (shift_any ga n n ca V (tz V) (word V) w2 HV.out.1 (fun _ _ => rfl) (Nat.le_refl _) (by omega) hca (by omega) HRA2.out).mono ?_
    rintro e w3 ⟨rfl, hra3, hg3, hs3⟩
    have HRA3 := Lib.hid (hra3.congr (g := word (V / 2 ^ tz V)) (fun i hi => by simp [mix, hi]))
    have HRB3 := Lib.hid (HRB.out.grown hg3 (by simp; omega))
    have HB3 := Lib.hid (below_of_grown HB2.out hg3 (by omega) (by omega))
    have htab : 0 < w.heap.size := HT.out.1
    have HT3 := Lib.hid (HT2.out.grown hg3 (by omega))
    clear hra3 hg3
    have HS3 := Lib.hid hs3
    clear hs3
    go_wp2_with fail
    refine (zeros_any gb m cb U w3 HU.out.1 HU0.out (by omega) HRB3.out.wds HT3.out).mono ?_
    rintro e w4 ⟨rfl, rfl⟩
    go_wp2_with fail
    refine (shift_any gb m m cb U (tz U) (word U) w3 HU.out.1 (fun _ _ => rfl) (Nat.le_refl _) (by omega) hcb (by omega) HRB3.out).mono ?_
    rintro e w4 ⟨rfl, hrb4, hg4, hs4⟩
    have HRB4 := Lib.hid (hrb4.congr (g := word (U / 2 ^ tz U)) (fun i hi => by simp [mix, hi]))
    have HRA4 := Lib.hid (HRA3.out.grown hg4 (by simp; omega))
    have HB4 := Lib.hid (below_of_grown HB3.out hg4 (by omega) (by have := HS3.out; omega))
    have HT4 := Lib.hid (HT3.out.grown hg4 (by omega))
    clear hrb4 hg4 hs4
    go_wp2_with fail
    obtain ⟨lA, lA'⟩ := trim_of_div (s := tz V) HV.out.1
    obtain ⟨lB, lB'⟩ := trim_of_div (s := tz U) HU.out.1
    have HLA := Lib.hid lA
    have HLB := Lib.hid lB
    clear lA lB
    have HST : Hid (GcdSt w w4 (Nat.gcd (V / 2 ^ tz V) (U / 2 ^ tz U)) (V / 2 ^ tz V + U / 2 ^ tz U) (.slice (some ⟨ga, 0, none⟩) (wlen (V / 2 ^ tz V)) ca) (.slice (some ⟨gb, 0, none⟩) (wlen (U / 2 ^ tz U)) cb)) :=
      ⟨ga, gb, _, _, ca, cb, _, _, rfl, rfl, Nat.le_refl _, hab, by omega, by omega, by omega, by omega, by omega, by omega, HRA4.out.less (by omega), HRB4.out.less (by omega), HLA.out, HLB.out, HoV.out, HoU.out, rfl, HB4.out, HT4.out⟩
    generalize hAV : V / 2 ^ tz V = A0 at *
    generalize hBU : U / 2 ^ tz U = B0 at *
    clear HRA4 HRB4 HRA3 HRB3 HRA2 HRA HRB HT2 HT3 HB1 HB2 HB3 HS3 HoV HoU hAV hBU
    generalize tz V = tV at *
    generalize tz U = tU at *
    rw [show min (tV : Int) (tU : Int) = ((min tV tU : Nat) : Int) from by omega]
    have htw : min tV tU ≤ 262144 := by omega
    generalize min tV tU = tw at *
    generalize hGG : Nat.gcd A0 B0 = G at *
    clear hGG
    go_loopg [0, 1] (A0 + B0) (fun k va vb wr => GcdSt w wr G k va vb)
    case atStart => exact HST.out
    case round =>
      obtain ⟨ga, gb, na, nb, ca, cb, A, B, rfl, rfl, hk, hab, hga, hgb, hna, hnb, hca, hcb, hra, hrb, hA, hB, oA, oB, hGcd, hbel, htb⟩ := hrel
      have HRA := Lib.hid hra
      have HRB := Lib.hid hrb
      have HA := Lib.hid hA
      have HB := Lib.hid hB
      have HoA := Lib.hid oA
      have HoB := Lib.hid oB
      have HGC := Lib.hid hGcd
      have HBel := Lib.hid hbel
      have HTb := Lib.hid htb
      have hw := hbel.size
      have hgal := hra.lt
      have hgbl := hrb.lt
      clear hra hrb hA hB oA oB hGcd hbel htb HST
      have HCMP := Lib.hid (compare_any ga gb na nb ca cb A B wr HA.out HB.out (by omega) (by omega) HRA.out.wds HRB.out.wds)
      rcases Nat.lt_trichotomy A B with hAB | hAB | hAB
      · rw [cmpN_lt hAB] at HCMP
        obtain ⟨s0, s1, s2, s3⟩ := gcd_step hAB HoB.out HoA.out
        have S0 := Lib.hid s0
        have S1 := Lib.hid s1
        have S2 := Lib.hid s2
        have S3 := Lib.hid s3
        have hXlt : B - A < 18446744073709551616 ^ nb := Nat.lt_of_le_of_lt (Nat.sub_le _ _) HB.out.1
        have HXlt := Lib.hid hXlt
        have htz := tz_lt_of hXlt s0
        obtain ⟨lA, lA'⟩ := trim_of_div (s := tz (B - A)) hXlt
        have HLA := Lib.hid lA
        clear s0 s1 s2 s3 hXlt lA
        go_wp2_with fail
        refine HCMP.out.mono ?_
        rintro e w1 ⟨rfl, q, rfl⟩
        go_wp2_with fail
        refine (reduce_any gb ga nb nb na cb ca B A (word B) (wr.drewN q) HA.out.1 HB.out.1 (by omega) (fun _ _ => rfl) (Nat.le_refl _) (by omega) (by omega) (HRB.out.drewN q) (HRA.out.drewN q).wds).mono ?_
        rintro e w2 ⟨rfl, hr2, hg2, hs2⟩
        have HR2 := Lib.hid (hr2.congr (g := word (B - A)) (fun i hi => by simp [mix, hi]))
        have HY2 := Lib.hid ((HRA.out.drewN q).grown hg2 (by simp; omega))
        have HBel2 := Lib.hid (below_of_grown (w' := wr.drewN q) (show Below w.heap.size w (wr.drewN q) from ⟨HBel.out.os, HBel.out.tape, HBel.out.output, HBel.out.size, HBel.out.block⟩) hg2 (by omega) hw)
        have htab : 0 < w.heap.size := HT.out.1
        have HTb2 := Lib.hid ((HTb.out.drewN q).grown hg2 (by omega))
        have hs2' : w2.heap.size = wr.heap.size := hs2
        have HS2 := Lib.hid hs2'
        clear hr2 hg2 hs2 hs2'
        go_wp2_with fail
        refine (zeros_any gb nb cb (B - A) w2 HXlt.out S0.out (by omega) HR2.out.wds HTb2.out).mono ?_
        rintro e w3 ⟨rfl, rfl⟩
        go_wp2_with fail
        refine (shift_any gb nb nb cb (B - A) (tz (B - A)) (word (B - A)) w2 HXlt.out (fun _ _ => rfl) (Nat.le_refl _) (by omega) hcb (by omega) HR2.out).mono ?_
        rintro e w3 ⟨rfl, hr3, hg3, hs3⟩
        have HR3 := Lib.hid (hr3.congr (g := word ((B - A) / 2 ^ tz (B - A))) (fun i hi => by simp [mix, hi]))
        have HY3 := Lib.hid (HY2.out.grown hg3 (by simp; omega))
        have HBel3 := Lib.hid (below_of_grown HBel2.out hg3 (by omega) (by have := HS2.out; omega))
        have HTb3 := Lib.hid (HTb2.out.grown hg3 (by omega))
        clear hr3 hg3 hs3
        go_wp2
        go_roundg ((B - A) / 2 ^ tz (B - A) + A)
        case measure => have := S3.out; omega
        case rel =>
          exact ⟨gb, ga, _, _, cb, ca, _, _, rfl, rfl, Nat.le_refl _, by omega, by omega, by omega, by omega, by omega, by omega, by omega, HR3.out.less (by omega), HY3.out, HLA.out, HA.out, S1.out, HoA.out, by rw [S2.out, Nat.gcd_comm]; exact HGC.out, HBel3.out, HTb3.out⟩
      · subst hAB
        rw [cmpN_eq] at HCMP
        have hmk : ∀ W : World, (Instr.makeSlice 99 (.int .i64 ((tw : Int) / 64 + 1)) (.int .i64 ((tw : Int) / 64 + 1))).run Tryz.prog W = .ok (.slice (some ⟨W.heap.size, 0, none⟩) (tw / 64 + 1) (tw / 64 + 1)) (W.alloc (.cells (madeCells #[.int .u64 0] (tw / 64 + 1)) 131)) := by
          intro W
          have e : (tw : Int) / 64 + 1 = ((tw / 64 + 1 : Nat) : Int) := by omega
          rw [e]
          exact make_u64 _ (by omega) W
        go_wp2_with fail
        refine HCMP.out.mono ?_
        rintro e w1 ⟨rfl, q, hq⟩
        have HRAq : Hid (Row w1 ga na (word A)) := by rw [hq]; exact HRA.out.drewN q
        have HBq : Hid (Below w.heap.size w w1) := by rw [hq]; exact ⟨HBel.out.os, HBel.out.tape, HBel.out.output, HBel.out.size, HBel.out.block⟩
        have hw1 : wr.heap.size ≤ w1.heap.size := by rw [hq]; exact Nat.le_refl _
        clear hq
        have hrow : Row (w1.alloc (.cells (madeCells #[.int .u64 0] (tw / 64 + 1)) 131)) w1.heap.size (tw / 64 + 1) (fun _ => 0) := Row.of_rowIs (World.rowIs_made w1 _ _ _)
        have hcw : (w1.alloc (.cells (madeCells #[.int .u64 0] (tw / 64 + 1)) 131)).cell? ⟨w1.heap.size, tw / 64, none⟩ = some (.int .u64 0) := Row.cell hrow (i := tw / 64) (by omega)
        have hfw := Row.frozen hrow (tw / 64)
        have HROW := Lib.hid hrow
        clear hrow
        go_wp2_with fail
        have hpr := power_row w1 tw
        have HPR := Lib.hid hpr
        have HRAq2 := Lib.hid (HRAq.out.of_block (Below.heap_alloc w1 (.cells ((madeCells #[.int .u64 0] (tw / 64 + 1)).setIfInBounds (tw / 64) (.int .u64 (IntKind.u64.wrap (2 ^ (tw % 64))))) 131) ga HRAq.out.lt))
        refine (times_any ga w1.heap.size na (tw / 64 + 1) ca (tw / 64 + 1) A (2 ^ tw) _ HA.out.1 (pow_lt_words tw) (by omega) (by omega) (by simp; omega) (by simp) HRAq2.out.wds HPR.out.wds).mono ?_
        rintro e w5 ⟨rfl, hr5, hb5, hs5⟩
        rw [World.size_alloc] at hr5
        have HR5 := Lib.hid hr5
        have HB5 := Lib.hid ((HBq.out.alloc (by omega) _).trans (hb5.mono (by simp; omega)))
        have hlt5 := hr5.lt
        clear hpr hr5 hb5 hs5 hcw hfw HROW hmk
        go_wp2_with fail
        go_ret
        refine ⟨_, rfl, ?_, HB5.out⟩
        have hfin : Nat.gcd V U = A * 2 ^ tw := by
          have := HGC.out
          rw [Nat.gcd_self] at this
          rw [HG.out, ← this, Nat.mul_comm]
        rw [hfin]
        refine ⟨_, _, _, rfl, ?_, by omega, Nat.le_refl _, hlt5, HR5.out.wds⟩
        rw [Nat.pow_add]
        exact Nat.mul_lt_mul'' HA.out.1 (pow_lt_words tw)
      · rw [cmpN_gt hAB] at HCMP
        obtain ⟨s0, s1, s2, s3⟩ := gcd_step hAB HoA.out HoB.out
        have S0 := Lib.hid s0
        have S1 := Lib.hid s1
        have S2 := Lib.hid s2
        have S3 := Lib.hid s3
        have hXlt : A - B < 18446744073709551616 ^ na := Nat.lt_of_le_of_lt (Nat.sub_le _ _) HA.out.1
        have HXlt := Lib.hid hXlt
        have htz := tz_lt_of hXlt s0
        obtain ⟨lA, lA'⟩ := trim_of_div (s := tz (A - B)) hXlt
        have HLA := Lib.hid lA
        clear s0 s1 s2 s3 hXlt lA
        go_wp2_with fail
        refine HCMP.out.mono ?_
        rintro e w1 ⟨rfl, q, rfl⟩
        go_wp2_with fail
        refine (reduce_any ga gb na na nb ca cb A B (word A) (wr.drewN q) HB.out.1 HA.out.1 (by omega) (fun _ _ => rfl) (Nat.le_refl _) (by omega) (by omega) (HRA.out.drewN q) (HRB.out.drewN q).wds).mono ?_
        rintro e w2 ⟨rfl, hr2, hg2, hs2⟩
        have HR2 := Lib.hid (hr2.congr (g := word (A - B)) (fun i hi => by simp [mix, hi]))
        have HY2 := Lib.hid ((HRB.out.drewN q).grown hg2 (by simp; omega))
        have HBel2 := Lib.hid (below_of_grown (w' := wr.drewN q) (show Below w.heap.size w (wr.drewN q) from ⟨HBel.out.os, HBel.out.tape, HBel.out.output, HBel.out.size, HBel.out.block⟩) hg2 (by omega) hw)
        have htab : 0 < w.heap.size := HT.out.1
        have HTb2 := Lib.hid ((HTb.out.drewN q).grown hg2 (by omega))
        have hs2' : w2.heap.size = wr.heap.size := hs2
        have HS2 := Lib.hid hs2'
        clear hr2 hg2 hs2 hs2'
        go_wp2_with fail
        refine (zeros_any ga na ca (A - B) w2 HXlt.out S0.out (by omega) HR2.out.wds HTb2.out).mono ?_
        rintro e w3 ⟨rfl, rfl⟩
        go_wp2_with fail
        refine (shift_any ga na na ca (A - B) (tz (A - B)) (word (A - B)) w2 HXlt.out (fun _ _ => rfl) (Nat.le_refl _) (by omega) hca (by omega) HR2.out).mono ?_
        rintro e w3 ⟨rfl, hr3, hg3, hs3⟩
        have HR3 := Lib.hid (hr3.congr (g := word ((A - B) / 2 ^ tz (A - B))) (fun i hi => by simp [mix, hi]))
        have HY3 := Lib.hid (HY2.out.grown hg3 (by simp; omega))
        have HBel3 := Lib.hid (below_of_grown HBel2.out hg3 (by omega) (by have := HS2.out; omega))
        have HTb3 := Lib.hid (HTb2.out.grown hg3 (by omega))
        clear hr3 hg3 hs3
        go_wp2
        go_roundg ((A - B) / 2 ^ tz (A - B) + B)
        case measure => have := S3.out; omega
        case rel =>
          exact ⟨ga, gb, _, _, ca, cb, _, _, rfl, rfl, Nat.le_refl _, by omega, by omega, by omega, by omega, by omega, by omega, by omega, HR3.out.less (by omega), HY3.out, HLA.out, HB.out, S1.out, HoB.out, by rw [S2.out]; exact HGC.out, HBel3.out, HTb3.out⟩
end Go.Proofs.YtoolanjbmbcaiaaGreatDoor
namespace Go.Proofs.YtoolanjbmbcaiaaGreatDoor
open Go.RowKit Bf

theorem divisor_any (b b' n m c c' V U : Nat) (w : World) (hV : Trim n V) (hU : Trim m U) (hn : n ≤ 4096) (hm : m ≤ 4096) (hc : n ≤ c) (hc' : m ≤ c') (hb : b < w.heap.size) (hb' : b' < w.heap.size) (h : Wds w b n V) (h' : Wds w b' m U) (hT : Tab w) :
    Calls Tryz.prog 61 #[.slice (some ⟨b, 0, none⟩) n c, .slice (some ⟨b', 0, none⟩) m c'] w (DivisorPost w (Nat.gcd V U)) := by
  by_cases h0 : n = 0
  · subst h0
    obtain rfl : V = 0 := (trim_zero_iff hV).1 rfl
    rw [Nat.gcd_zero_left]
    exact divisor_a0 b b' m c c' U w hU.1 (by omega) hc' hb' h'
  by_cases h0' : m = 0
  · subst h0'
    obtain rfl : U = 0 := (trim_zero_iff hU).1 rfl
    exact divisor_b0 b b' n c c' V w hV.1 (by omega) hc hb hb' h
  by_cases h1 : n = 1 ∧ m = 1
  · obtain ⟨rfl, rfl⟩ := h1
    exact divisor_one b b' c c' V U w (by simpa using hV.1) (by simpa using hU.1) h h'
  · exact divisor_many b b' n m c c' V U w hV hU hn hm (by omega) (by omega) h1 hb hb' h h' hT
end Go.Proofs.YtoolanjbmbcaiaaGreatDoor
namespace Go.Proofs.YtoolanjbmbcaiaaGreatDoor
open Go.RowKit Bf

/-- A string is a natural number: no zero byte at its beginning. -/
def Nat' (s : ByteArray) : Prop := Canon s.data.toList
/-- A natural number that is short enough. -/
def Short (s : ByteArray) : Prop := Nat' s ∧ s.size ≤ 256

theorem nat'_iff (s : ByteArray) : Nat' s ↔ ∀ h : 0 < s.size, (s[0]'h).toNat ≠ 0 := by
  unfold Nat' Canon
  rcases s with ⟨⟨l⟩⟩
  cases l with
  | nil => simp; intro h; cases h
  | cons c t =>
    simp only [List.head?_cons, ne_eq, Option.some.injEq]
    have e : ∀ h, (ByteArray.mk ⟨c :: t⟩)[0]'h = c := fun _ => rfl
    constructor
    · intro h hs hc
      rw [e] at hc
      exact h (UInt8.toNat_inj.1 (by simpa using hc))
    · intro h hc
      refine h (Nat.zero_lt_succ _) ?_
      rw [e, hc]; rfl

open Classical in
/-- What check returns for n strings. -/
noncomputable def chk (ss : Nat → ByteArray) (n : Nat) : Int := if ∃ j, j < n ∧ ¬ Nat' (ss j) then 60 else if ∃ j, j < n ∧ 256 < (ss j).size then 2 else 0

theorem chk_nat {ss : Nat → ByteArray} {n j : Nat} (hj : j < n) (h : ¬ Nat' (ss j)) : chk ss n = 60 := if_pos ⟨j, hj, h⟩
theorem chk_limit {ss : Nat → ByteArray} {n j : Nat} (hn : ∀ j, j < n → Nat' (ss j)) (hj : j < n) (h : 256 < (ss j).size) : chk ss n = 2 := by
  unfold chk
  rw [if_neg (fun ⟨j, hj, h⟩ => h (hn j hj)), if_pos ⟨j, hj, h⟩]
theorem chk_ok {ss : Nat → ByteArray} {n : Nat} (h : ∀ j, j < n → Short (ss j)) : chk ss n = 0 := by
  unfold chk
  rw [if_neg (fun ⟨j, hj, h'⟩ => h' (h j hj).1), if_neg (fun ⟨j, hj, h'⟩ => by have := (h j hj).2; omega)]

set_option maxHeartbeats 1000000 in
theorem check_any (b n c : Nat) (ss : Nat → ByteArray) (w : World) (hn : n ≤ 65536) (h : ∀ j, j < n → w.cell? ⟨b, j, none⟩ = some (.string (ss j))) :
    Calls Tryz.prog 59 #[.slice (some ⟨b, 0, none⟩) n c] w fun e w' => e = .returned (.int .i64 (chk ss n)) ∧ w = w' := by
  have H := Lib.hid h
  clear h
  go_enter Tryz.func59, Tryz.ntmps59
  go_wp2
  go_loop [9] (fun i => ∃ k : Nat, i = .int .i64 k ∧ k ≤ n ∧ Hid (∀ j, j < k → Nat' (ss j))) (fun i => n - (intOf i).toNat)
  case atStart => exact ⟨0, rfl, Nat.zero_le _, fun j hj => by omega⟩
  case round =>
    obtain ⟨k, rfl, hk, HK⟩ := hrel
    by_cases hlt : k < n
    · have hcell := H.out k hlt
      have HN := Lib.hid (nat'_iff (ss k))
      have HZ := Lib.hid (fun hz => chk_nat (ss := ss) hlt hz)
      have HK' := Lib.hid (fun (hz : Nat' (ss k)) j (hj : j < k + 1) => show Nat' (ss j) from by
        by_cases e : j = k
        · rw [e]; exact hz
        · exact HK.out j (by omega))
      generalize ss k = s at *
      by_cases h0 : 0 < s.size
      · have hidx := run_index_str (P := Tryz.prog) Tryz.underlying9 s 0 0 rfl h0
        by_cases hz : (s[0]'h0).toNat = 0
        · have hf := HZ.out (fun hn => HN.out.1 hn h0 hz)
          have HF := Lib.hid hf
          rw [hz] at hidx
          clear hf hz
          go_wp2
          go_ret
          exact ⟨by rw [HF.out]; rfl, rfl⟩
        · have hnat : Nat' s := HN.out.2 (fun _ => hz)
          have HNat := Lib.hid hnat
          have t1 : (((s[0]'h0).toNat : Int) == 0) = false := by rw [beq_eq_false_iff_ne]; omega
          generalize (s[0]'h0).toNat = x at *
          clear hnat hz
          go_wp2
          go_round
          case rel => exact ⟨k + 1, by go_num, by omega, HK'.out HNat.out⟩
          case measure => simp [intOf]; omega
      · have hnat : Nat' s := HN.out.2 (fun h => absurd h h0)
        have HNat := Lib.hid hnat
        clear hnat
        go_wp2
        go_round
        case rel => exact ⟨k + 1, by go_num, by omega, HK'.out HNat.out⟩
        case measure => simp [intOf]; omega
    · obtain rfl : k = n := by omega
      go_wp2
      go_loop [24] (fun i => ∃ q : Nat, i = .int .i64 q ∧ q ≤ k ∧ Hid (∀ j, j < q → (ss j).size ≤ 256)) (fun i => k - (intOf i).toNat)
      case atStart => exact ⟨0, rfl, Nat.zero_le _, fun j hj => by omega⟩
      case round =>
        obtain ⟨q, rfl, hq, HQ⟩ := hrel
        by_cases hql : q < k
        · have hcell := H.out q hql
          have HL := Lib.hid (fun hz => chk_limit HK.out hql hz)
          have HQ' := Lib.hid (fun (hz : (ss q).size ≤ 256) j (hj : j < q + 1) => show (ss j).size ≤ 256 from by
            by_cases e : j = q
            · rw [e]; exact hz
            · exact HQ.out j (by omega))
          generalize ss q = s at *
          by_cases hz : 256 < s.size
          · have HF := Lib.hid (HL.out hz)
            go_wp2
            go_ret
            exact ⟨by rw [HF.out]; rfl, rfl⟩
          · go_wp2
            go_round
            case rel => exact ⟨q + 1, by go_num, by omega, HQ'.out (by omega)⟩
            case measure => simp [intOf]; omega
        · obtain rfl : q = k := by omega
          have HF := Lib.hid (chk_ok (ss := ss) (n := q) (fun j hj => ⟨HK.out j hj, HQ.out j hj⟩))
          go_wp2
          go_ret
          exact ⟨by rw [HF.out]; rfl, rfl⟩
end Go.Proofs.YtoolanjbmbcaiaaGreatDoor
namespace Go.Proofs.YtoolanjbmbcaiaaGreatDoor
open Go.RowKit Bf

/-- The number of a string. -/
def bv (s : ByteArray) : Nat := bval s.data.toList
/-- The string of a number. -/
def bs (n : Nat) : ByteArray := ⟨(benc n).toArray⟩
theorem bv_bs (n : Nat) : bv (bs n) = n := bval_benc n
theorem bs_bv {s : ByteArray} (h : Nat' s) : bs (bv s) = s := by unfold bs bv; rw [benc_bval h]
theorem bs_nat (n : Nat) : Nat' (bs n) := benc_canon n
theorem bs_size (n : Nat) : (bs n).size = (benc n).length := List.size_toArray
theorem bs_short {n : Nat} : Short (bs n) ↔ n < 256 ^ 256 := by
  unfold Short
  rw [bs_size, benc_length_le]
  exact ⟨fun h => h.2, fun h => ⟨bs_nat n, h⟩⟩
theorem size_eq (s : ByteArray) : s.data.toList.length = s.size := Array.length_toList
theorem bv_lt {s : ByteArray} (h : s.size ≤ 256) : bv s < 256 ^ 256 := by
  have h1 := bval_lt s.data.toList
  rw [size_eq] at h1
  exact Nat.lt_of_lt_of_le h1 (Nat.pow_le_pow_right (by omega) h)

theorem words_trim {s : ByteArray} (h : Nat' s) : Trim ((s.size + 7) / 8) (bv s) := by
  have h1 := bval_lt s.data.toList
  rw [size_eq] at h1
  unfold bv
  constructor
  · rw [wpow_two]
    rw [bpow_two] at h1
    exact Nat.lt_of_lt_of_le h1 (Nat.pow_le_pow_right (by omega) (by omega))
  · rcases Nat.eq_zero_or_pos s.size with e | e
    · left; omega
    · right
      cases hl : s.data.toList with
      | nil => have := size_eq s; rw [hl] at this; simp at this; omega
      | cons c t =>
        have hlen : t.length + 1 = s.size := by rw [← size_eq, hl]; rfl
        have h2 := bval_ge (c := c) (l := t) (by rw [← hl]; exact h)
        rw [bpow_two] at h2
        refine Nat.le_trans ?_ h2
        rw [wpow_two]
        exact Nat.pow_le_pow_right (by omega) (by omega)

/-- A call that returns v, and leaves what was there. -/
def Ret (w : World) (v : Value) (e : Ending) (w' : World) : Prop := e = .returned v ∧ Below w.heap.size w w'

theorem Ret.trans {w w1 w2 : World} {v : Value} {e : Ending} (hb : Below w.heap.size w w1) (h : Ret w1 v e w2) : Ret w v e w2 := ⟨h.1, hb.trans (h.2.mono hb.size)⟩

set_option maxHeartbeats 1000000 in
theorem check1 (s : ByteArray) (w : World) : Calls Tryz.prog 30 #[.string s] w (Ret w (.int .i64 (chk (fun _ => s) 1))) := by
  have HC := Lib.hid (fun W (h : W.cell? ⟨w.heap.size, 0, none⟩ = some (.string s)) => check_any w.heap.size 1 1 (fun _ => s) W (by omega) (fun j hj => by
    have e : j = 0 := by omega
    rw [e]
    exact h))
  go_enter Tryz.func30, Tryz.ntmps30
  go_wp2_with (go_at_call 59; refine (HC.out _ (by simp [go_sem])).mono ?_; rintro e w1 ⟨rfl, rfl⟩)
  go_ret
  exact ⟨rfl, (Below.refl _ _).alloc (Nat.le_refl _) _⟩

theorem two_cells (w : World) (a b : ByteArray) (t : TypeId) : ∀ j, j < 2 → (w.alloc (.cells #[.string a, .string b] t)).cell? ⟨w.heap.size, j, none⟩ = some (.string (if j = 0 then a else b)) := by
  intro j hj
  have : j = 0 ∨ j = 1 := by omega
  rcases this with rfl | rfl <;> simp [go_sem]

set_option maxHeartbeats 1000000 in
theorem gcd_ok (a b : ByteArray) (w : World) (ha : Short a) (hb : Short b) (hT : Tab w) :
    Calls Tryz.prog 31 #[.string a, .string b] w (Ret w (.tuple #[.string (bs (Nat.gcd (bv a) (bv b))), .int .i64 0])) := by
  have hchk : chk (fun j => if j = 0 then a else b) 2 = 0 := chk_ok (fun j _ => by split <;> assumption)
  have HC := Lib.hid (check_any w.heap.size 2 2 (fun j => if j = 0 then a else b) (w.alloc (.cells #[.string a, .string b] 9)) (by omega) (two_cells w a b 9))
  rw [hchk] at HC
  have la := ha.2
  have lb := hb.2
  have HTa := Lib.hid (words_trim ha.1)
  have HTb := Lib.hid (words_trim hb.1)
  have HB0 := Lib.hid ((Below.refl w.heap.size w).alloc (Nat.le_refl _) (.cells #[.string a, .string b] 9))
  have HT := Lib.hid hT
  clear hchk ha hb hT
  go_enter Tryz.func31, Tryz.ntmps31
  go_wp2_with fail
  refine HC.out.mono ?_
  rintro e w1 ⟨rfl, rfl⟩
  go_wp2_with fail
  refine (words_any a _ (by omega)).mono ?_
  rintro e w1 ⟨rfl, hr1, hb1, hs1⟩
  rw [World.size_alloc] at hr1 hs1 ⊢
  have HR1 := Lib.hid hr1
  have HB1 := Lib.hid (HB0.out.trans (hb1.mono (by simp)))
  have h1 : w.heap.size + 1 < w1.heap.size := hr1.lt
  clear hr1 hb1 hs1
  go_wp2_with fail
  refine (words_any b _ (by omega)).mono ?_
  rintro e w2 ⟨rfl, hr2, hb2, hs2⟩
  have HR1' := Lib.hid (HR1.out.below hb2 h1)
  have HR2 := Lib.hid hr2
  have HB2 := Lib.hid (HB1.out.trans (hb2.mono (by omega)))
  have h2 : w1.heap.size < w2.heap.size := hr2.lt
  have HT2 := Lib.hid (HT.out.below HB2.out)
  clear hr2 hb2 hs2
  go_wp2_with fail
  refine (divisor_any (w.heap.size + 1) w1.heap.size ((a.size + 7) / 8) ((b.size + 7) / 8) ((a.size + 7) / 8) ((b.size + 7) / 8) (bv a) (bv b) w2 HTa.out HTb.out (by omega) (by omega) (Nat.le_refl _) (Nat.le_refl _) (by omega) (by omega) HR1'.out.wds HR2.out.wds HT2.out).mono ?_
  rintro e w3 ⟨v, rfl, ⟨g, k, cap, hv, hlt, hk, hcap, hg, hw⟩, hb3⟩
  rw [hv]
  have HB3 := Lib.hid (HB2.out.trans (hb3.mono (by omega)))
  have hsz := hb3.size
  have HX := Lib.hid (text_some g k cap (Nat.gcd (bv a) (bv b)) w3 hlt (by omega) hg hw)
  clear hb3 hw hlt hv
  go_wp2_with fail
  refine HX.out.mono ?_
  rintro e w4 ⟨rfl, hb4⟩
  have HB4 := Lib.hid (HB3.out.trans (hb4.mono (by omega)))
  clear hb4
  go_wp2
  go_ret2
  exact ⟨rfl, HB4.out⟩

/-- A string, or an error, if it is too long. -/
def shortV (n : Nat) : Value := if n < 256 ^ 256 then .tuple #[.string (bs n), .int .i64 0] else .tuple #[.string ⟨#[]⟩, .int .i64 2]

set_option maxHeartbeats 1000000 in
theorem mul_ok (a b : ByteArray) (w : World) (ha : Short a) (hb : Short b) :
    Calls Tryz.prog 244 #[.string a, .string b] w (Ret w (shortV (bv a * bv b))) := by
  have hchk : chk (fun j => if j = 0 then a else b) 2 = 0 := chk_ok (fun j _ => by split <;> assumption)
  have HC := Lib.hid (check_any w.heap.size 2 2 (fun j => if j = 0 then a else b) (w.alloc (.cells #[.string a, .string b] 9)) (by omega) (two_cells w a b 9))
  rw [hchk] at HC
  have la := ha.2
  have lb := hb.2
  have HTa := Lib.hid (words_trim ha.1)
  have HTb := Lib.hid (words_trim hb.1)
  have HB0 := Lib.hid ((Below.refl w.heap.size w).alloc (Nat.le_refl _) (.cells #[.string a, .string b] 9))
  clear hchk ha hb
  by_cases hsh : bv a * bv b < 256 ^ 256
  all_goals
    have HSH := Lib.hid hsh
    have hval : (if bv a * bv b < 256 ^ 256 then Value.tuple #[.string ⟨(benc (bv a * bv b)).toArray⟩, .int .i64 0] else .tuple #[.string ⟨#[]⟩, .int .i64 2]) = shortV (bv a * bv b) := rfl
    have HVAL := Lib.hid hval
    clear hsh hval
    go_enter Tryz.func244, Tryz.ntmps244
    go_wp2_with fail
    refine HC.out.mono ?_
    rintro e w1 ⟨rfl, rfl⟩
    go_wp2_with fail
    refine (words_any a _ (by omega)).mono ?_
    rintro e w1 ⟨rfl, hr1, hb1, hs1⟩
    rw [World.size_alloc] at hr1 hs1 ⊢
    have HR1 := Lib.hid hr1
    have HB1 := Lib.hid (HB0.out.trans (hb1.mono (by simp)))
    have h1 : w.heap.size + 1 < w1.heap.size := hr1.lt
    clear hr1 hb1 hs1
    go_wp2_with fail
    refine (words_any b _ (by omega)).mono ?_
    rintro e w2 ⟨rfl, hr2, hb2, hs2⟩
    have HR1' := Lib.hid (HR1.out.below hb2 h1)
    have HR2 := Lib.hid hr2
    have HB2 := Lib.hid (HB1.out.trans (hb2.mono (by omega)))
    have h2 : w1.heap.size < w2.heap.size := hr2.lt
    clear hr2 hb2 hs2
    go_wp2_with fail
    refine (times_any (w.heap.size + 1) w1.heap.size ((a.size + 7) / 8) ((b.size + 7) / 8) ((a.size + 7) / 8) ((b.size + 7) / 8) (bv a) (bv b) w2 HTa.out.1 HTb.out.1 (by omega) (by omega) (by omega) (by omega) HR1'.out.wds HR2.out.wds).mono ?_
    rintro e w3 ⟨rfl, hr3, hb3, hs3⟩
    have HB3 := Lib.hid (HB2.out.trans (hb3.mono (by omega)))
    have hsz := hb3.size
    have HX := Lib.hid (short_some w2.heap.size ((a.size + 7) / 8 + (b.size + 7) / 8) ((a.size + 7) / 8 + (b.size + 7) / 8) (bv a * bv b) w3 (by rw [Nat.pow_add]; exact Nat.mul_lt_mul'' HTa.out.1 HTb.out.1) (by omega) hr3.lt hr3.wds)
    clear hb3 hr3 hs3
    go_wp2_with fail
    refine HX.out.mono ?_
    first | rw [if_pos HSH.out] at * | rw [if_neg HSH.out] at *
    rintro e w4 ⟨rfl, hb4⟩
    have HB4 := Lib.hid (HB3.out.trans (hb4.mono (by omega)))
    clear hb4
    go_wp2
    go_ret2
    exact ⟨by rw [← HVAL.out]; rfl, HB4.out⟩

set_option maxHeartbeats 1000000 in
theorem of_ok (n : Nat) (w : World) (hn : n < 9223372036854775808) :
    Calls Tryz.prog 64 #[.int .i64 (n : Int)] w (Ret w (.tuple #[.string (bs n), .int .i64 0])) := by
  have HB0 := Lib.hid ((Below.refl w.heap.size w).alloc (Nat.le_refl _) (.cells #[.int .u64 (n : Int)] 131))
  have HX := Lib.hid (text_some w.heap.size 1 1 n (w.alloc (.cells #[.int .u64 (n : Int)] 131)) (by omega) (by omega) (by simp) (fun j hj => by
    have e : j = 0 := by omega
    rw [e, word_zero, Nat.mod_eq_of_lt (by omega)]
    simp [go_sem]))
  have e1 : IntKind.u64.wrap (n : Int) = (n : Int) := by rw [IntKind.wrap_u64]; omega
  go_enter Tryz.func64, Tryz.ntmps64
  go_wp2_with fail
  refine HX.out.mono ?_
  rintro e w1 ⟨rfl, hb1⟩
  have HB1 := Lib.hid (HB0.out.trans (hb1.mono (by simp)))
  clear hb1
  go_wp2
  go_ret2
  exact ⟨rfl, HB1.out⟩
end Go.Proofs.YtoolanjbmbcaiaaGreatDoor
namespace Go.Proofs.YtoolanjbmbcaiaaGreatDoor
open Go.RowKit Bf

def intV (n : Nat) : Value := if n < 9223372036854775808 then .tuple #[.int .i64 (n : Int), .bool true] else .tuple #[.int .i64 0, .bool false]

theorem isEmpty_false {s : ByteArray} (h : 0 < s.size) : s.toList.isEmpty = false := by
  rw [Lib.toList_data]
  cases hl : s.data.toList with
  | nil => have := size_eq s; rw [hl] at this; simp at this; omega
  | cons c t => rfl

set_option maxHeartbeats 1000000 in
theorem int_ok (s : ByteArray) (w : World) (hs : Nat' s) (hl : s.size ≤ 65536) :
    Calls Tryz.prog 146 #[.string s] w (Ret w (intV (bv s))) := by
  rcases Nat.eq_zero_or_pos s.size with h0 | h0
  · have e : s = ⟨#[]⟩ := by
      rcases s with ⟨⟨l⟩⟩
      have : l.length = 0 := h0
      rw [List.length_eq_zero_iff] at this
      rw [this]
    subst e
    have hv : intV (bv ⟨#[]⟩) = .tuple #[.int .i64 0, .bool true] := if_pos (by decide)
    rw [hv]
    clear hv hs hl h0
    go_enter Tryz.func146, Tryz.ntmps146
    go_wp2
    go_ret2
    exact ⟨rfl, Below.refl _ _⟩
  · have hz := (nat'_iff s).1 hs h0
    have hidx := run_index_str (P := Tryz.prog) Tryz.underlying9 s 0 0 rfl h0
    have HTr := Lib.hid (words_trim hs)
    have t0 : (((s[0]'h0).toNat : Int) == 0) = false := by rw [beq_eq_false_iff_ne]; omega
    have te := isEmpty_false h0
    generalize (s[0]'h0).toNat = x at *
    by_cases h8 : 8 < s.size
    · have hv : intV (bv s) = .tuple #[.int .i64 0, .bool false] := by
        unfold intV
        rw [if_neg]
        have h1 := HTr.out.2
        rcases h1 with h1 | h1
        · omega
        · have h2 : 18446744073709551616 ^ 1 ≤ 18446744073709551616 ^ ((s.size + 7) / 8 - 1) := Nat.pow_le_pow_right (by omega) (by omega)
          rw [Nat.pow_one] at h2
          omega
      rw [hv]
      clear hv
      go_enter Tryz.func146, Tryz.ntmps146
      go_wp2
      go_ret2
      exact ⟨rfl, Below.refl _ _⟩
    · have e1 : (s.size + 7) / 8 = 1 := by omega
      have hlt : bv s < 18446744073709551616 := by have := HTr.out.1; rw [e1] at this; simpa using this
      have HW := Lib.hid (words_any s w (by omega))
      rw [e1] at HW
      have key : ∀ w1 : World, Row w1 w.heap.size 1 (word (bval s.data.toList)) → w1.cell? ⟨w.heap.size, 0, none⟩ = some (.int .u64 (bv s : Int)) := fun w1 h => by
        have := Row.cell h (i := 0) (by omega)
        rw [this, word_zero]
        congr 3
        exact Nat.mod_eq_of_lt hlt
      have KEY := Lib.hid key
      clear key e1
      by_cases h63 : bv s < 9223372036854775808
      · have hv : intV (bv s) = .tuple #[.int .i64 (bv s : Int), .bool true] := if_pos h63
        rw [hv]
        clear hv
        have ew : IntKind.i64.wrap (bv s : Int) = (bv s : Int) := by rw [IntKind.wrap_i64]; omega
        generalize bv s = V at *
        go_enter Tryz.func146, Tryz.ntmps146
        go_wp2_with fail
        refine HW.out.mono ?_
        rintro e w1 ⟨rfl, hr1, hb1, hs1⟩
        have hcell := KEY.out w1 hr1
        have HB1 := Lib.hid hb1
        clear hr1 hb1 hs1
        go_wp2
        go_ret2
        exact ⟨rfl, HB1.out⟩
      · have hv : intV (bv s) = .tuple #[.int .i64 0, .bool false] := if_neg h63
        rw [hv]
        clear hv
        generalize bv s = V at *
        go_enter Tryz.func146, Tryz.ntmps146
        go_wp2_with fail
        refine HW.out.mono ?_
        rintro e w1 ⟨rfl, hr1, hb1, hs1⟩
        have hcell := KEY.out w1 hr1
        have HB1 := Lib.hid hb1
        clear hr1 hb1 hs1
        go_wp2
        go_ret2
        exact ⟨rfl, HB1.out⟩
end Go.Proofs.YtoolanjbmbcaiaaGreatDoor
namespace Go.Proofs.YtoolanjbmbcaiaaGreatDoor
open Go.RowKit Bf

set_option maxHeartbeats 1000000 in
theorem div64_zero (lo y : Nat) (w : World) (hy : 0 < y) (hlo : lo < 18446744073709551616) :
    Calls Tryz.prog 141 #[.int .u64 0, .int .u64 (lo : Int), .int .u64 (y : Int)] w fun e w' => e = .returned (.tuple #[.int .u64 ((lo / y : Nat) : Int), .int .u64 ((lo % y : Nat) : Int)]) ∧ ∃ q, w' = w.drewN q := by
  have t0 : ((y : Int) == 0) = false := by rw [beq_eq_false_iff_ne]; omega
  have t1 : 1 ≤ (y : Int) := by omega
  have ew : IntKind.u64.wrap ((lo : Int) / (y : Int)) = (lo : Int) / (y : Int) := by
    rw [← Int.natCast_ediv, IntKind.wrap_u64]
    have := Nat.div_le_self lo y
    generalize lo / y = z at *
    omega
  go_enter Tryz.func141, Tryz.ntmps141
  go_wp2
  go_quiet (fail)
  go_wp2
  go_ret2
  refine ⟨?_, _, rfl⟩
  rw [Int.natCast_ediv, Int.natCast_emod]
  rfl

/-- A digit of the quotient. -/
def dgt (u d y1 y0 : Nat) : Nat := (u * 4294967296 + d) / (y1 * 4294967296 + y0)

theorem dgt_spec {u d y1 y0 : Nat} (h1 : 0 < y1) (hu : u < y1 * 4294967296 + y0) (hd : d < 4294967296) :
    dgt u d y1 y0 < 4294967296 ∧ dgt u d y1 y0 * (y1 * 4294967296 + y0) ≤ u * 4294967296 + d ∧ u * 4294967296 + d - dgt u d y1 y0 * (y1 * 4294967296 + y0) < y1 * 4294967296 + y0 := by
  unfold dgt
  obtain ⟨Y, e⟩ : ∃ Y, Y = y1 * 4294967296 + y0 := ⟨_, rfl⟩
  have hY : 0 < Y := by omega
  rw [← e] at hu ⊢
  clear e
  refine ⟨?_, Nat.div_mul_le_self _ _, ?_⟩
  · rw [Nat.div_lt_iff_lt_mul hY]
    have : (u + 1) * 4294967296 ≤ Y * 4294967296 := Nat.mul_le_mul_right _ hu
    omega
  · have h2 := Nat.div_add_mod (u * 4294967296 + d) Y
    have h3 := Nat.mod_lt (u * 4294967296 + d) hY
    rw [Nat.mul_comm] at h2
    omega

/-- The next rest, as it is calculated. -/
theorem rest_words {u d P : Nat} (hle : P ≤ u * 4294967296 + d) (hlt : u * 4294967296 + d - P < 18446744073709551616) :
    ((((u : Int) * 4294967296) % 18446744073709551616 + (d : Int)) % 18446744073709551616 - ((P : Nat) : Int) % 18446744073709551616) % 18446744073709551616 = ((u * 4294967296 + d - P : Nat) : Int) := by omega

/-- The numbers of the first half. -/
structure Half (hi lo y s Y y1 y0 h1 l1 un32 un10 un1 un0 : Nat) : Prop where
  s_le : s ≤ 63
  eY : IntKind.u64.wrap ((y : Int) * 2 ^ s) = (Y : Int)
  ey1 : (Y : Int) / 4294967296 = (y1 : Int)
  ey0 : bits .and .u64 (Y : Int) 4294967295 = (y0 : Int)
  eh1 : IntKind.u64.wrap ((hi : Int) * 2 ^ s) = (h1 : Int)
  el1 : (lo : Int) / 2 ^ (64 - s) = (l1 : Int)
  eun32 : bits .or .u64 (h1 : Int) (l1 : Int) = (un32 : Int)
  eun10 : IntKind.u64.wrap ((lo : Int) * 2 ^ s) = (un10 : Int)
  eun1 : (un10 : Int) / 4294967296 = (un1 : Int)
  eun0 : bits .and .u64 (un10 : Int) 4294967295 = (un0 : Int)
  y1_ge : 2147483648 ≤ y1
  y1_lt : y1 < 4294967296
  y0_lt : y0 < 4294967296
  un1_lt : un1 < 4294967296
  un0_lt : un0 < 4294967296
  un32_lt : un32 < y1 * 4294967296 + y0
  Yeq : Y = y1 * 4294967296 + y0
  Yshift : Y = y * 2 ^ s
  Neq : (un32 * 4294967296 + un1) * 4294967296 + un0 = (hi * 18446744073709551616 + lo) * 2 ^ s

set_option maxRecDepth 100000 in
set_option maxHeartbeats 4000000 in
theorem div64_big (hi lo y s Y y1 y0 h1 l1 un32 un10 un1 un0 : Nat) (w : World) (hhi : 0 < hi) (hy : hi < y) (H : Half hi lo y s Y y1 y0 h1 l1 un32 un10 un1 un0)
    (HL : ∀ W, Calls Tryz.prog 171 #[.int .u64 (y : Int)] W fun e w' => e = .returned (.int .i64 (s : Int)) ∧ W = w') :
    Calls Tryz.prog 141 #[.int .u64 (hi : Int), .int .u64 (lo : Int), .int .u64 (y : Int)] w fun e w' => e = .returned (.tuple #[.int .u64 (((hi * 18446744073709551616 + lo) / y : Nat) : Int), .int .u64 (((hi * 18446744073709551616 + lo) % y : Nat) : Int)]) ∧ w = w' := by
  obtain ⟨s_le, eY, ey1, ey0, eh1, el1, eun32, eun10, eun1, eun0, y1_ge, y1_lt, y0_lt, un1_lt, un0_lt, un32_lt, Yeq, Yshift, Neq⟩ := H
  have HYeq := Lib.hid Yeq
  have HYs := Lib.hid Yshift
  have HN := Lib.hid Neq
  have HU := Lib.hid un32_lt
  have HC := Lib.hid HL
  clear Yeq Yshift Neq un32_lt HL
  have t0 : ((y : Int) == 0) = false := by rw [beq_eq_false_iff_ne]; omega
  have t1 : ((hi : Int) == 0) = false := by rw [beq_eq_false_iff_ne]; omega
  have t2 : ¬ (y : Int) ≤ (hi : Int) := by omega
  have hun : un32 < 18446744073709551616 := by have := HU.out; omega
  obtain ⟨q1, hq1⟩ : ∃ q, q = un32 / y1 := ⟨_, rfl⟩
  obtain ⟨r1, hr1⟩ : ∃ r, r = un32 % y1 := ⟨_, rfl⟩
  have hq1l : q1 ≤ 4294967297 := by rw [hq1]; exact guess_start_le y1_ge y0_lt HU.out
  have hr1l : r1 < y1 := by rw [hr1]; exact Nat.mod_lt _ (by omega)
  have HG1 := Lib.hid (show Guess un32 un1 y1 y0 q1 r1 from by rw [hq1, hr1]; exact guess_start (by omega) un1_lt)
  have eq1 : (un32 : Int) / (y1 : Int) = (q1 : Int) := by rw [hq1, Int.natCast_ediv]
  have ewq1 : IntKind.u64.wrap (q1 : Int) = (q1 : Int) := by rw [IntKind.wrap_u64]; omega
  have ty1 : 1 ≤ (y1 : Int) := by omega
  have hqr : q1 * y1 + r1 = un32 := by rw [hq1, hr1, Nat.mul_comm]; exact Nat.div_add_mod _ _
  obtain ⟨p1, hp1⟩ : ∃ p, p = q1 * y1 := ⟨_, rfl⟩
  have ep1 : IntKind.u64.wrap ((q1 : Int) * (y1 : Int)) = (p1 : Int) := by
    rw [← Int.natCast_mul, ← hp1, IntKind.wrap_u64]
    rw [← hp1] at hqr
    omega
  have er1 : IntKind.u64.wrap ((un32 : Int) - (p1 : Int)) = (r1 : Int) := by
    rw [IntKind.wrap_u64]
    rw [← hp1] at hqr
    omega
  clear hq1 hr1 hqr hp1
  go_enter Tryz.func141, Tryz.ntmps141
  go_upto_block 0 with (go_at_call 171; refine (HC.out _).mono ?_; rintro e w1 ⟨rfl, rfl⟩)
  go_cut [15] (fun q wx => q = .int .u64 (dgt un32 un1 y1 y0 : Int) ∧ wx = w)
  case first =>
    go_wp2_with fail
    go_loop [15, 16] (fun q r => ∃ q' r' : Int, q = .int .u64 q' ∧ r = .int .u64 r' ∧ 0 ≤ q' ∧ 0 ≤ r' ∧ q' ≤ 4294967297 ∧ r' < 4294967296 ∧ Hid (Guess un32 un1 y1 y0 q'.toNat r'.toNat)) (fun q _ => (intOf q).toNat)
    case atStart => exact ⟨q1, r1, rfl, rfl, by omega, by omega, by omega, by omega, HG1.out⟩
    case round =>
      obtain ⟨q, r, rfl, rfl, hq0, hr0, hq, hr, HGu⟩ := hrel
      by_cases hA : 4294967296 ≤ q.toNat ∨ 4294967296 * r.toNat + un1 < q.toNat * y0
      · obtain ⟨g1, g2⟩ := guess_high HU.out un1_lt HGu.out hA
        rw [show q.toNat - 1 = (q - 1).toNat from by omega, show r.toNat + y1 = (r + y1).toNat from by omega] at g2
        have HG2 := Lib.hid g2
        clear g2
        by_cases hbr : 4294967296 ≤ r + y1
        · have hfin : (q - 1).toNat = dgt un32 un1 y1 y0 := by
            refine (guess_right (by omega) HG2.out ?_).1
            have h1 : (q - 1).toNat * y0 ≤ 4294967296 * y0 := Nat.mul_le_mul_right _ (by omega)
            omega
          have HFin := Lib.hid hfin
          clear hfin
          by_cases hA1 : 4294967296 ≤ q
          · clear hA
            go_wp2
            go_meet
            exact ⟨by rw [← HFin.out]; congr 1; omega, rfl⟩
          · skip
            have hA2 : 4294967296 * r.toNat + un1 < q.toNat * y0 := by omega
            have hml : q.toNat * y0 < 18446744073709551616 := by
              have h1 : q.toNat * y0 ≤ 4294967296 * y0 := Nat.mul_le_mul_right _ (by omega)
              omega
            obtain ⟨mz, hmz, em⟩ : ∃ mz : Int, mz = ((q.toNat * y0 : Nat) : Int) ∧ IntKind.u64.wrap (q * (y0 : Int)) = mz := by
              refine ⟨_, rfl, ?_⟩
              have e1 : q * (y0 : Int) = ((q.toNat * y0 : Nat) : Int) := by rw [Int.natCast_mul, Int.toNat_of_nonneg hq0]
              rw [e1, IntKind.wrap_u64]
              generalize q.toNat * y0 = mm at *
              omega
            have hmz2 : 4294967296 * r + (un1 : Int) < mz := by
              rw [hmz]
              generalize q.toNat * y0 = mm at *
              omega
            clear hA hmz hA2 hml
            go_wp2
            go_meet
            exact ⟨by rw [← HFin.out]; congr 1; omega, rfl⟩
        · by_cases hA1 : 4294967296 ≤ q
          · clear hA
            go_wp2
            go_round
            case rel => exact ⟨q - 1, r + y1, rfl, rfl, by omega, by omega, by omega, by omega, HG2.out⟩
            case measure => simp [intOf]; omega
          · skip
            have hA2 : 4294967296 * r.toNat + un1 < q.toNat * y0 := by omega
            have hml : q.toNat * y0 < 18446744073709551616 := by
              have h1 : q.toNat * y0 ≤ 4294967296 * y0 := Nat.mul_le_mul_right _ (by omega)
              omega
            obtain ⟨mz, hmz, em⟩ : ∃ mz : Int, mz = ((q.toNat * y0 : Nat) : Int) ∧ IntKind.u64.wrap (q * (y0 : Int)) = mz := by
              refine ⟨_, rfl, ?_⟩
              have e1 : q * (y0 : Int) = ((q.toNat * y0 : Nat) : Int) := by rw [Int.natCast_mul, Int.toNat_of_nonneg hq0]
              rw [e1, IntKind.wrap_u64]
              generalize q.toNat * y0 = mm at *
              omega
            have hmz2 : 4294967296 * r + (un1 : Int) < mz := by
              rw [hmz]
              generalize q.toNat * y0 = mm at *
              omega
            clear hA hmz hA2 hml
            go_wp2
            go_round
            case rel => exact ⟨q - 1, r + y1, rfl, rfl, by omega, by omega, by omega, by omega, HG2.out⟩
            case measure => simp [intOf]; omega
      · have hle : q.toNat * y0 ≤ 4294967296 * r.toNat + un1 := by omega
        have hq32 : q < 4294967296 := by omega
        have hfin : q.toNat = dgt un32 un1 y1 y0 := (guess_right (by omega) HGu.out hle).1
        have HFin := Lib.hid hfin
        obtain ⟨mz, hmz, em⟩ : ∃ mz : Int, mz = ((q.toNat * y0 : Nat) : Int) ∧ IntKind.u64.wrap (q * (y0 : Int)) = mz := by
          refine ⟨_, rfl, ?_⟩
          have e1 : q * (y0 : Int) = ((q.toNat * y0 : Nat) : Int) := by rw [Int.natCast_mul, Int.toNat_of_nonneg hq0]
          rw [e1, IntKind.wrap_u64]
          generalize q.toNat * y0 = mm at *
          omega
        have hmz2 : mz ≤ 4294967296 * r + (un1 : Int) := by
          rw [hmz]
          generalize q.toNat * y0 = mm at *
          omega
        clear hA hfin hmz hle
        go_wp2
        go_meet
        exact ⟨by rw [← HFin.out]; congr 1; omega, rfl⟩
  case rest =>
    obtain ⟨rfl, rfl⟩ := hcut
    obtain ⟨hQ, hQle, hQlt⟩ := dgt_spec (by omega) HU.out un1_lt
    have hQY : dgt un32 un1 y1 y0 * (y1 * 4294967296 + y0) = dgt un32 un1 y1 y0 * Y := by rw [HYeq.out]
    rw [hQY] at hQle hQlt
    have HD1 := Lib.hid (show dgt un32 un1 y1 y0 = (un32 * 4294967296 + un1) / Y from by unfold dgt; rw [← HYeq.out])
    clear hQY eq1 ewq1 ep1 er1 hq1l hr1l HG1 eY ey1 ey0 eh1 el1 eun32 eun10 eun1 eun0 hun
    generalize dgt un32 un1 y1 y0 = Q1 at *
    have hYl : Y < 18446744073709551616 := by have := HYeq.out; omega
    obtain ⟨a1, ha1, ea1⟩ : ∃ a : Int, a = ((un32 : Int) * 4294967296) % 18446744073709551616 ∧ IntKind.u64.wrap ((un32 : Int) * 4294967296) = a := ⟨_, rfl, by rw [IntKind.wrap_u64]⟩
    obtain ⟨a2, ha2, ea2⟩ : ∃ a : Int, a = (a1 + (un1 : Int)) % 18446744073709551616 ∧ IntKind.u64.wrap (a1 + (un1 : Int)) = a := ⟨_, rfl, by rw [IntKind.wrap_u64]⟩
    obtain ⟨a3, ha3, ea3⟩ : ∃ a : Int, a = ((Q1 * Y : Nat) : Int) % 18446744073709551616 ∧ IntKind.u64.wrap ((Q1 : Int) * (Y : Int)) = a := ⟨_, rfl, by rw [← Int.natCast_mul, IntKind.wrap_u64]⟩
    obtain ⟨un21, hun21⟩ : ∃ u : Nat, u = un32 * 4294967296 + un1 - Q1 * Y := ⟨_, rfl⟩
    have ea4 : IntKind.u64.wrap (a2 - a3) = (un21 : Int) := by
      rw [IntKind.wrap_u64, ha2, ha3, ha1, hun21]
      exact rest_words hQle (by have := HYeq.out; omega)
    have HU2 := Lib.hid (show un21 < y1 * 4294967296 + y0 from by rw [hun21]; exact hQlt)
    have HR1 := Lib.hid (show un21 = (un32 * 4294967296 + un1) % Y from by
      have h2 := Nat.div_add_mod (un32 * 4294967296 + un1) Y
      rw [← HD1.out, Nat.mul_comm] at h2
      omega)
    clear ha1 ha2 ha3 hun21 hQle hQlt
    have hun' : un21 < 18446744073709551616 := by have := HU2.out; omega
    obtain ⟨q2, hq2⟩ : ∃ q, q = un21 / y1 := ⟨_, rfl⟩
    obtain ⟨r2, hr2⟩ : ∃ r, r = un21 % y1 := ⟨_, rfl⟩
    have hq2l : q2 ≤ 4294967297 := by rw [hq2]; exact guess_start_le y1_ge y0_lt HU2.out
    have hr2l : r2 < y1 := by rw [hr2]; exact Nat.mod_lt _ (by omega)
    have HG2' := Lib.hid (show Guess un21 un0 y1 y0 q2 r2 from by rw [hq2, hr2]; exact guess_start (by omega) un0_lt)
    have eq2 : (un21 : Int) / (y1 : Int) = (q2 : Int) := by rw [hq2, Int.natCast_ediv]
    have ewq2 : IntKind.u64.wrap (q2 : Int) = (q2 : Int) := by rw [IntKind.wrap_u64]; omega
    have hqr : q2 * y1 + r2 = un21 := by rw [hq2, hr2, Nat.mul_comm]; exact Nat.div_add_mod _ _
    obtain ⟨p2, hp2⟩ : ∃ p, p = q2 * y1 := ⟨_, rfl⟩
    have ep2 : IntKind.u64.wrap ((q2 : Int) * (y1 : Int)) = (p2 : Int) := by
      rw [← Int.natCast_mul, ← hp2, IntKind.wrap_u64]
      rw [← hp2] at hqr
      omega
    have er2 : IntKind.u64.wrap ((un21 : Int) - (p2 : Int)) = (r2 : Int) := by
      rw [IntKind.wrap_u64]
      rw [← hp2] at hqr
      omega
    clear hq2 hr2 hqr hp2
    go_upto_block 2 with (fail)
    go_cut [18] (fun q wx => q = .int .u64 (dgt un21 un0 y1 y0 : Int) ∧ wx = wc)
    case first =>
      clear ea1 ea2 ea3 ea4
      go_wp2_with fail
      go_loop [18, 16] (fun q r => ∃ q' r' : Int, q = .int .u64 q' ∧ r = .int .u64 r' ∧ 0 ≤ q' ∧ 0 ≤ r' ∧ q' ≤ 4294967297 ∧ r' < 4294967296 ∧ Hid (Guess un21 un0 y1 y0 q'.toNat r'.toNat)) (fun q _ => (intOf q).toNat)
      case atStart => exact ⟨q2, r2, rfl, rfl, by omega, by omega, by omega, by omega, HG2'.out⟩
      case round =>
        obtain ⟨q, r, rfl, rfl, hq0, hr0, hq, hr, HGu⟩ := hrel
        by_cases hA : 4294967296 ≤ q.toNat ∨ 4294967296 * r.toNat + un0 < q.toNat * y0
        · obtain ⟨g1, g2⟩ := guess_high HU2.out un0_lt HGu.out hA
          rw [show q.toNat - 1 = (q - 1).toNat from by omega, show r.toNat + y1 = (r + y1).toNat from by omega] at g2
          have HG2 := Lib.hid g2
          clear g2
          by_cases hbr : 4294967296 ≤ r + y1
          · have hfin : (q - 1).toNat = dgt un21 un0 y1 y0 := by
              refine (guess_right (by omega) HG2.out ?_).1
              have h1 : (q - 1).toNat * y0 ≤ 4294967296 * y0 := Nat.mul_le_mul_right _ (by omega)
              omega
            have HFin := Lib.hid hfin
            clear hfin
            by_cases hA1 : 4294967296 ≤ q
            · clear hA
              go_wp2
              go_meet
              exact ⟨by rw [← HFin.out]; congr 1; omega, rfl⟩
            · skip
              have hA2 : 4294967296 * r.toNat + un0 < q.toNat * y0 := by omega
              have hml : q.toNat * y0 < 18446744073709551616 := by
                have h1 : q.toNat * y0 ≤ 4294967296 * y0 := Nat.mul_le_mul_right _ (by omega)
                omega
              obtain ⟨mz, hmz, em⟩ : ∃ mz : Int, mz = ((q.toNat * y0 : Nat) : Int) ∧ IntKind.u64.wrap (q * (y0 : Int)) = mz := by
                refine ⟨_, rfl, ?_⟩
                have e1 : q * (y0 : Int) = ((q.toNat * y0 : Nat) : Int) := by rw [Int.natCast_mul, Int.toNat_of_nonneg hq0]
                rw [e1, IntKind.wrap_u64]
                generalize q.toNat * y0 = mm at *
                omega
              have hmz2 : 4294967296 * r + (un0 : Int) < mz := by
                rw [hmz]
                generalize q.toNat * y0 = mm at *
                omega
              clear hA hmz hA2 hml
              go_wp2
              go_meet
              exact ⟨by rw [← HFin.out]; congr 1; omega, rfl⟩
          · by_cases hA1 : 4294967296 ≤ q
            · clear hA
              go_wp2
              go_round
              case rel => exact ⟨q - 1, r + y1, rfl, rfl, by omega, by omega, by omega, by omega, HG2.out⟩
              case measure => simp [intOf]; omega
            · skip
              have hA2 : 4294967296 * r.toNat + un0 < q.toNat * y0 := by omega
              have hml : q.toNat * y0 < 18446744073709551616 := by
                have h1 : q.toNat * y0 ≤ 4294967296 * y0 := Nat.mul_le_mul_right _ (by omega)
                omega
              obtain ⟨mz, hmz, em⟩ : ∃ mz : Int, mz = ((q.toNat * y0 : Nat) : Int) ∧ IntKind.u64.wrap (q * (y0 : Int)) = mz := by
                refine ⟨_, rfl, ?_⟩
                have e1 : q * (y0 : Int) = ((q.toNat * y0 : Nat) : Int) := by rw [Int.natCast_mul, Int.toNat_of_nonneg hq0]
                rw [e1, IntKind.wrap_u64]
                generalize q.toNat * y0 = mm at *
                omega
              have hmz2 : 4294967296 * r + (un0 : Int) < mz := by
                rw [hmz]
                generalize q.toNat * y0 = mm at *
                omega
              clear hA hmz hA2 hml
              go_wp2
              go_round
              case rel => exact ⟨q - 1, r + y1, rfl, rfl, by omega, by omega, by omega, by omega, HG2.out⟩
              case measure => simp [intOf]; omega
        · have hle : q.toNat * y0 ≤ 4294967296 * r.toNat + un0 := by omega
          have hq32 : q < 4294967296 := by omega
          have hfin : q.toNat = dgt un21 un0 y1 y0 := (guess_right (by omega) HGu.out hle).1
          have HFin := Lib.hid hfin
          obtain ⟨mz, hmz, em⟩ : ∃ mz : Int, mz = ((q.toNat * y0 : Nat) : Int) ∧ IntKind.u64.wrap (q * (y0 : Int)) = mz := by
            refine ⟨_, rfl, ?_⟩
            have e1 : q * (y0 : Int) = ((q.toNat * y0 : Nat) : Int) := by rw [Int.natCast_mul, Int.toNat_of_nonneg hq0]
            rw [e1, IntKind.wrap_u64]
            generalize q.toNat * y0 = mm at *
            omega
          have hmz2 : mz ≤ 4294967296 * r + (un0 : Int) := by
            rw [hmz]
            generalize q.toNat * y0 = mm at *
            omega
          clear hA hfin hmz hle
          go_wp2
          go_meet
          exact ⟨by rw [← HFin.out]; congr 1; omega, rfl⟩
    case rest =>
      obtain ⟨rfl, rfl⟩ := hcut
      obtain ⟨hQ0, hQle, hQlt⟩ := dgt_spec (by omega) HU2.out un0_lt
      have hQY : dgt un21 un0 y1 y0 * (y1 * 4294967296 + y0) = dgt un21 un0 y1 y0 * Y := by rw [HYeq.out]
      rw [hQY] at hQle hQlt
      have HD2 := Lib.hid (show dgt un21 un0 y1 y0 = (un21 * 4294967296 + un0) / Y from by unfold dgt; rw [← HYeq.out])
      clear hQY eq2 ewq2 ep2 er2 hq2l hr2l HG2' ea1 ea2 ea3 ea4 hun'
      generalize dgt un21 un0 y1 y0 = Q0 at *
      obtain ⟨a1, ha1, ea1⟩ : ∃ a : Int, a = ((un21 : Int) * 4294967296) % 18446744073709551616 ∧ IntKind.u64.wrap ((un21 : Int) * 4294967296) = a := ⟨_, rfl, by rw [IntKind.wrap_u64]⟩
      obtain ⟨a2, ha2, ea2⟩ : ∃ a : Int, a = (a1 + (un0 : Int)) % 18446744073709551616 ∧ IntKind.u64.wrap (a1 + (un0 : Int)) = a := ⟨_, rfl, by rw [IntKind.wrap_u64]⟩
      obtain ⟨a3, ha3, ea3⟩ : ∃ a : Int, a = ((Q0 * Y : Nat) : Int) % 18446744073709551616 ∧ IntKind.u64.wrap ((Q0 : Int) * (Y : Int)) = a := ⟨_, rfl, by rw [← Int.natCast_mul, IntKind.wrap_u64]⟩
      obtain ⟨rr, hrr⟩ : ∃ u : Nat, u = un21 * 4294967296 + un0 - Q0 * Y := ⟨_, rfl⟩
      have ea4 : IntKind.u64.wrap (a2 - a3) = (rr : Int) := by
        rw [IntKind.wrap_u64, ha2, ha3, ha1, hrr]
        exact rest_words hQle (by have := HYeq.out; omega)
      have HR2 := Lib.hid (show rr = (un21 * 4294967296 + un0) % Y from by
        have h2 := Nat.div_add_mod (un21 * 4294967296 + un0) Y
        rw [← HD2.out, Nat.mul_comm] at h2
        omega)
      clear ha1 ha2 ha3 hrr hQle hQlt
      obtain ⟨f1, f2⟩ := two_digits (X := un32 * 4294967296 + un1) (un0 := un0) (Y := Y) (by have := HYeq.out; omega)
      rw [← HR1.out, ← HD1.out, ← HD2.out, HN.out] at f1
      rw [← HR1.out, ← HR2.out, HN.out] at f2
      have hfin1 : (hi * 18446744073709551616 + lo) / y = Q0 + 4294967296 * Q1 := by rw [f1, HYs.out]; exact (div_shifted (s := s)).1.symm
      have hfin2 : (hi * 18446744073709551616 + lo) % y = rr / 2 ^ s := by rw [f2, HYs.out]; exact (div_shifted (s := s)).2.symm
      have HF1 := Lib.hid hfin1
      have HF2 := Lib.hid hfin2
      clear f1 f2 hfin1 hfin2
      go_wp2
      go_ret2
      refine ⟨?_, rfl⟩
      rw [HF1.out, HF2.out, show ((Q0 + 4294967296 * Q1 : Nat) : Int) = (Q1 : Int) * 4294967296 + (Q0 : Int) from by omega, show ((rr / 2 ^ s : Nat) : Int) = (rr : Int) / 2 ^ s from by simp]
      rfl
end Go.Proofs.YtoolanjbmbcaiaaGreatDoor
namespace Go.Proofs.YtoolanjbmbcaiaaGreatDoor
open Go.RowKit Bf

theorem half_of {hi lo y s : Nat} (hs : s ≤ 63) (hy : hi < y) (hlo : lo < 18446744073709551616) (hl : 9223372036854775808 ≤ y * 2 ^ s) (hr : y * 2 ^ s < 18446744073709551616) :
    ∃ Y y1 y0 h1 l1 un32 un10 un1 un0, Half hi lo y s Y y1 y0 h1 l1 un32 un10 un1 un0 := by
  have hp : 0 < 2 ^ s := Nat.pow_pos (by omega)
  have hpp : 2 ^ (64 - s) * 2 ^ s = 18446744073709551616 := by rw [← Nat.pow_add, show 64 - s + s = 64 from by omega]
  have hh : hi * 2 ^ s + 2 ^ s ≤ y * 2 ^ s := by
    have : (hi + 1) * 2 ^ s ≤ y * 2 ^ s := Nat.mul_le_mul_right _ hy
    rw [Nat.add_mul] at this; omega
  have hl1 : lo / 2 ^ (64 - s) < 2 ^ s := by
    rw [Nat.div_lt_iff_lt_mul (Nat.pow_pos (by omega)), Nat.mul_comm, hpp]; exact hlo
  have hor : (hi * 2 ^ s) ||| (lo / 2 ^ (64 - s)) = hi * 2 ^ s + lo / 2 ^ (64 - s) := by
    rw [Nat.mul_comm, Nat.two_pow_add_eq_or_of_lt hl1]
  have hq : lo * 2 ^ s / 18446744073709551616 = lo / 2 ^ (64 - s) := by
    rw [← hpp, Nat.mul_div_mul_right _ _ hp]
  have hsplit := Nat.div_add_mod (lo * 2 ^ s) 18446744073709551616
  rw [hq] at hsplit
  refine ⟨y * 2 ^ s, y * 2 ^ s / 4294967296, y * 2 ^ s % 4294967296, hi * 2 ^ s, lo / 2 ^ (64 - s), hi * 2 ^ s + lo / 2 ^ (64 - s), lo * 2 ^ s % 18446744073709551616, lo * 2 ^ s % 18446744073709551616 / 4294967296, lo * 2 ^ s % 18446744073709551616 % 4294967296, ?_⟩
  have c1 : ∀ x : Nat, (x : Int) * 2 ^ s = ((x * 2 ^ s : Nat) : Int) := fun x => by simp
  have mask : ∀ x : Nat, x < 18446744073709551616 → bits .and .u64 (x : Int) 4294967295 = ((x % 4294967296 : Nat) : Int) := M64.maskN
  have hN : ((hi * 2 ^ s + lo / 2 ^ (64 - s)) * 4294967296 + lo * 2 ^ s % 18446744073709551616 / 4294967296) * 4294967296 + lo * 2 ^ s % 18446744073709551616 % 4294967296 = (hi * 18446744073709551616 + lo) * 2 ^ s := by
    have e : (hi * 18446744073709551616 + lo) * 2 ^ s = hi * 2 ^ s * 18446744073709551616 + lo * 2 ^ s := by grind
    rw [e]
    generalize lo * 2 ^ s % 18446744073709551616 = z at *
    generalize lo * 2 ^ s = t at *
    generalize lo / 2 ^ (64 - s) = q at *
    generalize hi * 2 ^ s = h at *
    omega
  refine { s_le := hs, eY := ?_, ey1 := ?_, ey0 := mask _ hr, eh1 := ?_, el1 := ?_, eun32 := ?_, eun10 := ?_, eun1 := ?_, eun0 := mask _ (Nat.mod_lt _ (by omega)), y1_ge := ?_, y1_lt := ?_, y0_lt := Nat.mod_lt _ (by omega), un1_lt := ?_, un0_lt := Nat.mod_lt _ (by omega), un32_lt := ?_, Yeq := ?_, Yshift := rfl, Neq := hN }
  · rw [c1, IntKind.wrap_u64]; generalize y * 2 ^ s = z at *; omega
  · generalize y * 2 ^ s = z at *; omega
  · rw [c1, IntKind.wrap_u64]; generalize hi * 2 ^ s = z at *; generalize y * 2 ^ s = z' at *; omega
  · simp
  · rw [bits_or_u64_nat _ _ ?_ ?_, hor]
    · generalize hi * 2 ^ s = z at *; generalize y * 2 ^ s = z' at *; omega
    · exact Nat.lt_of_le_of_lt (Nat.div_le_self _ _) hlo
  · rw [c1, IntKind.wrap_u64]; omega
  · generalize lo * 2 ^ s % 18446744073709551616 = z at *; omega
  · generalize y * 2 ^ s = z at *; omega
  · generalize y * 2 ^ s = z at *; omega
  · have := Nat.mod_lt (lo * 2 ^ s) (show 0 < 18446744073709551616 by omega)
    generalize lo * 2 ^ s % 18446744073709551616 = z at *; omega
  · generalize lo / 2 ^ (64 - s) = q at *
    generalize hi * 2 ^ s = h at *
    generalize y * 2 ^ s = z at *
    omega
  · generalize y * 2 ^ s = z at *; omega

theorem div64_any (hi lo y : Nat) (w : World) (hy : hi < y) (hyl : y < 18446744073709551616) (hlo : lo < 18446744073709551616) :
    Calls Tryz.prog 141 #[.int .u64 (hi : Int), .int .u64 (lo : Int), .int .u64 (y : Int)] w fun e w' => e = .returned (.tuple #[.int .u64 (((hi * 18446744073709551616 + lo) / y : Nat) : Int), .int .u64 (((hi * 18446744073709551616 + lo) % y : Nat) : Int)]) ∧ ∃ q, w' = w.drewN q := by
  by_cases h0 : hi = 0
  · subst h0
    have := div64_zero lo y w (by omega) hlo
    simpa using this
  · obtain ⟨b1, b2, b3, b4⟩ := bitLen_spec (x := y) (by omega) hyl
    have hlead := fun W => lead64_any y W (by omega) hyl
    generalize Lib.bitLen y = L at *
    have e63 : 2 ^ (L - 1) * 2 ^ (64 - L) = 9223372036854775808 := by rw [← Nat.pow_add, show L - 1 + (64 - L) = 63 from by omega]
    have e64 : 2 ^ L * 2 ^ (64 - L) = 18446744073709551616 := by rw [← Nat.pow_add, show L + (64 - L) = 64 from by omega]
    have hp : 0 < 2 ^ (64 - L) := Nat.pow_pos (by omega)
    obtain ⟨Y, y1, y0, h1, l1, un32, un10, un1, un0, H⟩ := half_of (s := 64 - L) (by omega) hy hlo (by rw [← e63]; exact Nat.mul_le_mul_right _ b3) (by rw [← e64]; exact Nat.mul_lt_mul_of_pos_right b4 hp)
    refine (div64_big hi lo y (64 - L) Y y1 y0 h1 l1 un32 un10 un1 un0 w (by omega) hy H (fun W => ?_)).mono ?_
    · have := hlead W
      rw [show (64 : Int) - (L : Int) = ((64 - L : Nat) : Int) from by omega] at this
      exact this
    · rintro e w' ⟨rfl, rfl⟩
      exact ⟨rfl, 0, rfl⟩
end Go.Proofs.YtoolanjbmbcaiaaGreatDoor
namespace Go.Proofs.YtoolanjbmbcaiaaGreatDoor
open Go.RowKit Bf
attribute [local go_sem ↓] Go.wp_at_zero Go.wp_at_succ

/-- A number of words, or no words at all. -/
def NumQ (w' : World) (v : Value) (V : Nat) : Prop := (v = .slice none 0 0 ∧ V = 0) ∨ NumAt w' v V
def DividePost (w : World) (q r : Nat) (e : Ending) (w' : World) : Prop := ∃ v u, e = .returned (.tuple #[v, u]) ∧ NumQ w' v q ∧ NumQ w' u r ∧ Below w.heap.size w w'

set_option maxRecDepth 100000 in
set_option maxHeartbeats 1000000 in
theorem divide_less (b b' n m c c' V U : Nat) (w : World) (hV : Trim n V) (hU : Trim m U) (hn : n ≤ 65536) (hm : m ≤ 65536) (hc : n ≤ c) (hb : b < w.heap.size) (hb' : b' < w.heap.size) (h : Wds w b n V) (h' : Wds w b' m U) (hlt : V < U) :
    Calls Tryz.prog 99 #[.slice (some ⟨b, 0, none⟩) n c, .slice (some ⟨b', 0, none⟩) m c'] w (DividePost w (V / U) (V % U)) := by
  have hq : V / U = 0 := Nat.div_eq_of_lt hlt
  have hr : V % U = V := Nat.mod_eq_of_lt hlt
  rw [hq, hr]
  have HC := Lib.hid (fun W (hW : Below w.heap.size w W) => compare_any b b' n m c c' V U W hV hU hn hm (h.below hW hb) (h'.below hW hb'))
  rw [cmpN_lt hlt] at HC
  have HN := Lib.hid (fun W (hW : Below w.heap.size w W) => show NumAt W (.slice (some ⟨b, 0, none⟩) n c) V from ⟨b, n, c, rfl, hV.1, hn, hc, Nat.lt_of_lt_of_le hb hW.size, h.below hW hb⟩)
  clear hV hU h h' hq hr
  go_enter Tryz.func99, Tryz.ntmps99
  go_wp2_with fail
  have HB0 := Lib.hid ((((Below.refl w.heap.size w).alloc (Nat.le_refl _) (.cells #[.slice (some ⟨b', 0, none⟩) m c'] 99)).alloc (by simp) (.cells #[.slice none 0 0] 99)).alloc (by simp; omega) (.cells #[.slice none 0 0] 99))
  refine (HC.out _ HB0.out).mono ?_
  rintro e w1 ⟨rfl, q, hq⟩
  have HB1 : Hid (Below w.heap.size w w1) := by rw [hq]; exact ⟨HB0.out.os, HB0.out.tape, HB0.out.output, HB0.out.size, HB0.out.block⟩
  have c1 : w1.cell? ⟨w.heap.size + 1, 0, none⟩ = some (.slice none 0 0) := by rw [hq]; simp [go_sem]
  have c2 : w1.cell? ⟨w.heap.size + 1 + 1, 0, none⟩ = some (.slice none 0 0) := by rw [hq]; simp [go_sem]
  have f1 : w1.frozen? ⟨w.heap.size + 1, 0, none⟩ = false := by rw [hq]; simp [go_sem]
  have f2 : w1.frozen? ⟨w.heap.size + 1 + 1, 0, none⟩ = false := by rw [hq]; simp [go_sem]
  clear hq
  go_wp2
  have hbel := (HB1.out.setCell (p := ⟨w.heap.size + 1, 0, none⟩) (by simp) (.slice none 0 0)).setCell (p := ⟨w.heap.size + 1 + 1, 0, none⟩) (by simp; omega) (.slice (some ⟨b, 0, none⟩) n c)
  exact bodyPost_ret (v := .tuple #[.slice none 0 0, .slice (some ⟨b, 0, none⟩) n c]) (by simp [results, Tryz.results99, go_sem, c1, c2]) rfl ⟨_, _, rfl, .inl ⟨rfl, rfl⟩, .inr (HN.out _ hbel), hbel⟩

/-- The state of a division by one word: the quotient's words above z are there. -/
structure WordSt (w wr : World) (b' n c' V U : Nat) (z : Int) : Prop where
  cb : wr.cell? ⟨w.heap.size, 0, none⟩ = some (.slice (some ⟨b', 0, none⟩) 1 c')
  cq : wr.cell? ⟨w.heap.size + 1, 0, none⟩ = some (.slice (some ⟨w.heap.size + 3, 0, none⟩) n n)
  cr : wr.cell? ⟨w.heap.size + 1 + 1, 0, none⟩ = some (.slice none 0 0)
  fq : wr.frozen? ⟨w.heap.size + 1, 0, none⟩ = false
  fr : wr.frozen? ⟨w.heap.size + 1 + 1, 0, none⟩ = false
  row : Row wr (w.heap.size + 3) n (fun j => if z < (j : Int) then word (V / U) j else 0)
  bel : Below w.heap.size w wr

theorem WordSt.drewN {w wr : World} {b' n c' V U : Nat} {z : Int} (h : WordSt w wr b' n c' V U z) (q : Nat) : WordSt w (wr.drewN q) b' n c' V U z :=
  ⟨h.cb, h.cq, h.cr, h.fq, h.fr, h.row, ⟨h.bel.os, h.bel.tape, h.bel.output, h.bel.size, h.bel.block⟩⟩
theorem WordSt.drew {w wr : World} {b' n c' V U : Nat} {z : Int} (h : WordSt w wr b' n c' V U z) : WordSt w wr.drew b' n c' V U z := h.drewN 1

theorem WordSt.set {w wr : World} {b' n c' V U k : Nat} (h : WordSt w wr b' n c' V U (k : Int)) (v : Int) (hv : v = (word (V / U) k : Int)) :
    WordSt w (wr.setCell ⟨w.heap.size + 3, k, none⟩ (.int .u64 v)) b' n c' V U ((k : Int) - 1) := by
  have hne : ∀ x, x < w.heap.size + 3 → (wr.setCell ⟨w.heap.size + 3, k, none⟩ (.int .u64 v)).cell? ⟨x, 0, none⟩ = wr.cell? ⟨x, 0, none⟩ := fun x hx => World.cell?_of_block (w := wr) (Below.heap_setCell wr _ _ x (by simp; omega))
  refine ⟨?_, ?_, ?_, ?_, ?_, ?_, h.bel.setCell (p := ⟨w.heap.size + 3, k, none⟩) (by simp) _⟩
  · rw [hne _ (by omega)]; exact h.cb
  · rw [hne _ (by omega)]; exact h.cq
  · rw [hne _ (by omega)]; exact h.cr
  · rw [World.frozen?_setCell]; exact h.fq
  · rw [World.frozen?_setCell]; exact h.fr
  · refine (h.row.set k v hv).congr fun i hi => ?_
    by_cases e : i = k
    · rw [if_pos e, e, if_pos (by omega)]
    · rw [if_neg e]
      have : ((k : Int) < (i : Int)) = ((k : Int) - 1 < (i : Int)) := by apply propext; omega
      simp only [this]

set_option maxRecDepth 100000 in
set_option maxHeartbeats 2000000 in
theorem divide_word (b b' n c c' V U : Nat) (w : World) (hV : Trim n V) (hU : Trim 1 U) (hn : n ≤ 65536) (hb : b < w.heap.size) (hb' : b' < w.heap.size) (h : Wds w b n V) (h' : Wds w b' 1 U) (hge : U ≤ V) :
    Calls Tryz.prog 99 #[.slice (some ⟨b, 0, none⟩) n c, .slice (some ⟨b', 0, none⟩) 1 c'] w (DividePost w (V / U) (V % U)) := by
  have hUp : 0 < U := Nat.pos_of_ne_zero fun e => by have := (trim_zero_iff hU).2 e; omega
  have hUl : U < 18446744073709551616 := by simpa using hU.1
  have HC := Lib.hid (fun W (hW : Below w.heap.size w W) => compare_any b b' n 1 c c' V U W hV hU hn (by omega) (h.below hW hb) (h'.below hW hb'))
  have hcmp : 0 ≤ cmpN V U := by unfold cmpN; split <;> (try split) <;> omega
  have H := Lib.hid h
  have hU0 : ∀ W, Below w.heap.size w W → W.cell? ⟨b', 0, none⟩ = some (.int .u64 (U : Int)) := fun W hW => by
    have := h'.below hW hb' 0 (by omega)
    rwa [word_zero, Nat.mod_eq_of_lt hUl] at this
  have HU0 := Lib.hid hU0
  have HV := Lib.hid hV
  have hmk := fun W : World => make_u64 n (by omega) W
  clear hV hU h h' hU0
  generalize cmpN V U = cm at *
  have tcm : decide (cm < 0) = false := by simp; omega
  go_enter Tryz.func99, Tryz.ntmps99
  go_wp2_with fail
  have HB0 := Lib.hid ((((Below.refl w.heap.size w).alloc (Nat.le_refl _) (.cells #[.slice (some ⟨b', 0, none⟩) 1 c'] 99)).alloc (by simp) (.cells #[.slice none 0 0] 99)).alloc (by simp; omega) (.cells #[.slice none 0 0] 99))
  refine (HC.out _ HB0.out).mono ?_
  rintro e w1 ⟨rfl, q, hq⟩
  have HB1 : Hid (Below w.heap.size w w1) := by rw [hq]; exact ⟨HB0.out.os, HB0.out.tape, HB0.out.output, HB0.out.size, HB0.out.block⟩
  have c0 : w1.cell? ⟨w.heap.size, 0, none⟩ = some (.slice (some ⟨b', 0, none⟩) 1 c') := by rw [hq]; simp [go_sem]
  have c1 : w1.cell? ⟨w.heap.size + 1, 0, none⟩ = some (.slice none 0 0) := by rw [hq]; simp [go_sem]
  have c2 : w1.cell? ⟨w.heap.size + 1 + 1, 0, none⟩ = some (.slice none 0 0) := by rw [hq]; simp [go_sem]
  have f1 : w1.frozen? ⟨w.heap.size + 1, 0, none⟩ = false := by rw [hq]; simp [go_sem]
  have f2 : w1.frozen? ⟨w.heap.size + 1 + 1, 0, none⟩ = false := by rw [hq]; simp [go_sem]
  have hs : w1.heap.size = w.heap.size + 3 := by rw [hq]; simp [go_sem]
  clear hq HB0 HC
  have hmk1 := hmk w1
  rw [hs] at hmk1
  clear hmk
  have HS := Lib.hid hs
  have d0 : ∀ o, (w1.alloc o).cell? ⟨w.heap.size, 0, none⟩ = some (.slice (some ⟨b', 0, none⟩) 1 c') := fun o => by rw [World.cell?_alloc_lt _ _ _ (by simp; omega)]; exact c0
  have d1 : ∀ o, (w1.alloc o).cell? ⟨w.heap.size + 1, 0, none⟩ = some (.slice none 0 0) := fun o => by rw [World.cell?_alloc_lt _ _ _ (by simp; omega)]; exact c1
  have g1 : ∀ o, (w1.alloc o).frozen? ⟨w.heap.size + 1, 0, none⟩ = false := fun o => by rw [World.frozen?_of_block (w := w1) (Below.heap_alloc w1 o _ (by simp; omega))]; exact f1
  clear hs
  go_wp2
  have HST : Hid (WordSt w ((w1.alloc (.cells (madeCells #[.int .u64 0] n) 131)).setCell ⟨w.heap.size + 1, 0, none⟩ (.slice (some ⟨w.heap.size + 3, 0, none⟩) n n)) b' n c' V U ((n : Int) - 1)) := by
    have hs := HS.out
    have hne : ∀ x, x ≠ w.heap.size + 1 → ((w1.alloc (.cells (madeCells #[.int .u64 0] n) 131)).setCell ⟨w.heap.size + 1, 0, none⟩ (.slice (some ⟨w.heap.size + 3, 0, none⟩) n n)).cell? ⟨x, 0, none⟩ = (w1.alloc (.cells (madeCells #[.int .u64 0] n) 131)).cell? ⟨x, 0, none⟩ := fun x hx => World.cell?_of_block (w := w1.alloc _) (Below.heap_setCell _ _ _ x hx)
    refine ⟨?_, ?_, ?_, ?_, ?_, ?_, (HB1.out.alloc (by omega) _).setCell (p := ⟨w.heap.size + 1, 0, none⟩) (by simp) _⟩
    · rw [hne _ (by omega)]; exact d0 _
    · exact World.cell?_setCell_same' _ _ _ (by rw [d1]; rfl)
    · rw [hne _ (by omega), World.cell?_alloc_lt _ _ _ (by simp; omega)]; exact c2
    · rw [World.frozen?_setCell]; exact g1 _
    · rw [World.frozen?_setCell, World.frozen?_of_block (w := w1) (Below.heap_alloc w1 _ _ (by simp; omega))]; exact f2
    · have hr : Row (w1.alloc (.cells (madeCells #[.int .u64 0] n) 131)) (w.heap.size + 3) n (fun _ => 0) := by
        rw [← hs]; exact Row.of_rowIs (World.rowIs_made w1 _ _ _)
      refine (hr.of_block (Below.heap_setCell _ _ _ _ (by simp))).congr fun i hi => ?_
      rw [if_neg (by omega)]
  clear d0 d1 g1 c0 c1 c2 f1 f2 hmk1 HB1 HS
  go_loopw [6, 7] (fun re i wr => ∃ z : Int, -1 ≤ z ∧ z < n ∧ i = .int .i64 z ∧ re = .int .u64 (((V / 18446744073709551616 ^ (z + 1).toNat) % U : Nat) : Int) ∧ WordSt w wr b' n c' V U z) (fun _ i _ => (intOf i + 1).toNat)
  case atStart =>
    refine ⟨(n : Int) - 1, by omega, by omega, rfl, ?_, HST.out⟩
    rw [show ((n : Int) - 1 + 1).toNat = n from by omega, Nat.div_eq_of_lt HV.out.1, Nat.zero_mod]; rfl
  case round =>
    obtain ⟨z, hz1, hz2, rfl, rfl, hst⟩ := hrel
    have HST1 := Lib.hid hst
    clear hst HST
    by_cases hz : 0 ≤ z
    · obtain ⟨k, rfl⟩ := Int.eq_ofNat_of_zero_le hz
      rw [show ((k : Int) + 1).toNat = k + 1 from by omega]
      obtain ⟨e1, e2⟩ := div_word_step (V := V) (b := U) (i := k) hUp
      have hrl := Nat.mod_lt (V / 18446744073709551616 ^ (k + 1)) hUp
      have hcb := HST1.out.cb
      have hcq := HST1.out.cq
      have hca := (HST1.out.bel.cell (p := ⟨b, k, none⟩) hb).trans (H.out k (by omega))
      have hcu := HU0.out wr HST1.out.bel
      have hcr := HST1.out.row.cell (i := k) (by omega)
      have hfr := HST1.out.row.frozen k
      have HD := Lib.hid (fun W => div64_any (V / 18446744073709551616 ^ (k + 1) % U) (word V k) U W hrl hUl (word_lt V k))
      rw [e1, e2] at HD
      have hnext : ((k : Int) - 1 + 1).toNat = k := by omega
      have HNX := Lib.hid hnext
      clear e1 e2 hrl hnext
      generalize V / 18446744073709551616 ^ (k + 1) % U = re at *
      generalize hqd : word (V / U) k = qd at *
      generalize hrd : V / 18446744073709551616 ^ k % U = rd at *
      have HQD := Lib.hid hqd
      have HRD := Lib.hid hrd
      clear hqd hrd
      go_wp2_with fail
      have n1 : ¬ w.heap.size + 3 = w.heap.size := by omega
      have n2 : ¬ w.heap.size + 3 = w.heap.size + 1 := by omega
      have n3 : ¬ w.heap.size + 3 = b := by omega
      have n4 : ¬ w.heap.size + 3 = b' := by omega
      have m1 : ¬ w.heap.size = w.heap.size + 3 := by omega
      have m2 : ¬ w.heap.size + 1 = w.heap.size + 3 := by omega
      have m3 : ¬ b = w.heap.size + 3 := by omega
      have m4 : ¬ b' = w.heap.size + 3 := by omega
      have bk1 : (0 : Int) ≤ (k : Int) := by omega
      have bk2 : (k : Int) < (n : Int) := by omega
      go_region_held3 (fun w' => w'.cell? ⟨w.heap.size, 0, none⟩ = some (.slice (some ⟨b', 0, none⟩) 1 c') ∧ w'.cell? ⟨w.heap.size + 1, 0, none⟩ = some (.slice (some ⟨w.heap.size + 3, 0, none⟩) n n) ∧ w'.cell? ⟨b, k, none⟩ = some (.int .u64 (word V k : Int)) ∧ w'.cell? ⟨b', 0, none⟩ = some (.int .u64 (U : Int))) (first | exact ⟨hcb, hcq, hca, hcu⟩ | go_keep)
        (first | (go_at_call 141; refine (HD.out _).mono ?_; rintro e w1 ⟨rfl, qq, rfl⟩))
      go_wp2
      go_roundw
      case rel =>
        refine ⟨(k : Int) - 1, by omega, by omega, rfl, ?_, ?_⟩
        · rw [HNX.out, HRD.out]
        · first
            | exact (HST1.out.set _ (by rw [HQD.out])).drewN _
            | exact ((HST1.out.set _ (by rw [HQD.out])).drewN _).drew
            | exact (HST1.out.drew.drewN _).set _ (by rw [HQD.out])
      case measure => simp [intOf] <;> omega
    · obtain rfl : z = -1 := by omega
      have e0 : V / 18446744073709551616 ^ ((-1 : Int) + 1).toNat % U = V % U := by simp
      rw [e0]
      have hlt := HST1.out.row.lt
      have d1 : ∀ o, (wr.alloc o).cell? ⟨w.heap.size + 1, 0, none⟩ = some (.slice (some ⟨w.heap.size + 3, 0, none⟩) n n) := fun o => by rw [World.cell?_alloc_lt _ _ _ (by simp; omega)]; exact HST1.out.cq
      have d2 : ∀ o, (wr.alloc o).cell? ⟨w.heap.size + 1 + 1, 0, none⟩ = some (.slice none 0 0) := fun o => by rw [World.cell?_alloc_lt _ _ _ (by simp; omega)]; exact HST1.out.cr
      have g1 : ∀ o, (wr.alloc o).frozen? ⟨w.heap.size + 1, 0, none⟩ = false := fun o => by rw [World.frozen?_of_block (w := wr) (Below.heap_alloc wr o _ (by simp; omega))]; exact HST1.out.fq
      have g2 : ∀ o, (wr.alloc o).frozen? ⟨w.heap.size + 1 + 1, 0, none⟩ = false := fun o => by rw [World.frozen?_of_block (w := wr) (Below.heap_alloc wr o _ (by simp; omega))]; exact HST1.out.fr
      have hcq := HST1.out.cq
      have hrl := Nat.mod_lt V hUp
      generalize hrv : V % U = rv at *
      have HRV := Lib.hid hrv
      clear hrv e0
      go_wp2
      have hbel : Below w.heap.size w (((wr.alloc (.cells #[.int .u64 (rv : Int)] 131)).setCell ⟨w.heap.size + 1, 0, none⟩ (.slice (some ⟨w.heap.size + 3, 0, none⟩) n n)).setCell ⟨w.heap.size + 1 + 1, 0, none⟩ (.slice (some ⟨wr.heap.size, 0, none⟩) 1 1)) := ((HST1.out.bel.alloc HST1.out.bel.size _).setCell (p := ⟨w.heap.size + 1, 0, none⟩) (by simp) _).setCell (p := ⟨w.heap.size + 1 + 1, 0, none⟩) (by simp; omega) _
      refine bodyPost_ret (v := .tuple #[.slice (some ⟨w.heap.size + 3, 0, none⟩) n n, .slice (some ⟨wr.heap.size, 0, none⟩) 1 1]) (by simp [results, Tryz.results99, go_sem, d1, d2]) rfl ⟨_, _, rfl, .inr ?_, .inr ?_, hbel⟩
      · refine ⟨_, _, _, rfl, Nat.lt_of_le_of_lt (Nat.div_le_self _ _) HV.out.1, by omega, Nat.le_refl _, by simp [go_sem]; omega, ?_⟩
        have hr := ((HST1.out.row.of_block (Below.heap_alloc wr (.cells #[.int .u64 (rv : Int)] 131) _ hlt)).of_block (Below.heap_setCell _ ⟨w.heap.size + 1, 0, none⟩ (.slice (some ⟨w.heap.size + 3, 0, none⟩) n n) _ (by simp))).of_block (Below.heap_setCell _ ⟨w.heap.size + 1 + 1, 0, none⟩ (.slice (some ⟨wr.heap.size, 0, none⟩) 1 1) _ (by simp))
        exact hr.wds_of (Nat.le_refl _) (fun j hj => by rw [if_pos (by omega)])
      · refine ⟨_, _, _, rfl, by rw [Nat.pow_one]; omega, by omega, Nat.le_refl _, by simp [go_sem], fun j hj => ?_⟩
        have e : j = 0 := by omega
        rw [e, word_zero, Nat.mod_eq_of_lt (by omega)]
        rw [World.cell?_of_block (w := wr.alloc (.cells #[.int .u64 (rv : Int)] 131)) ((Below.heap_setCell _ _ _ _ (by simp; omega)).trans (Below.heap_setCell _ _ _ _ (by simp; omega)))]
        simp [go_sem]
end Go.Proofs.YtoolanjbmbcaiaaGreatDoor
namespace Go.Proofs.YtoolanjbmbcaiaaGreatDoor
open Go Go.RowKit Bf

theorem oper_wpIn_round {l n : Nat} {P : Program} {o : Oper} {a : Act} {w : World} {K : Act → World → Prop} {Q : Exit → Act → World → Prop} (hnd : ∀ c, o.op ≠ .defer c) (h : o.wp P a w K Q) : o.wpIn (Fence.wide.inRound l) n P a w K Q := by
  refine ⟨fun _ _ => trivial, ?_⟩
  show o.uponIn _ n P a K Q ((o.semAt (some l) a.eval).run P w)
  rw [Oper.semAt_some l _ o hnd]
  unfold Oper.wp at h
  generalize (execOp a.eval o).run P w = r at *
  cases r with
  | ok x w' =>
    cases x <;> simp only [Oper.upon, Oper.uponIn] at h ⊢ <;>
      first
        | exact h
        | exact ⟨fun e => by simp [Fence.wide] at e, callsIn_wide.2 h⟩
        | exact ⟨fun e => by simp [Fence.wide] at e, fun c cs _ => let ⟨v, w', r, s⟩ := h c cs; ⟨v, w', r, stepsIn_wide.2 s⟩⟩
  | halt x w' => cases x <;> simp only [Oper.upon, Oper.uponIn] at h ⊢ <;> exact h

theorem wpOp_round {l n : Nat} {P : Program} {ops : Array Oper} {Q : Exit → Act → World → Prop} (hq : ¬ LetsOut Q) (hnd : ∀ (i : Nat) (o : Oper), ops[i]? = some o → ∀ c, o.op ≠ .defer c) {i : Nat} {K : Act → World → Prop} {a : Act} {w : World} (h : wpOp P ops Q i K a w) : wpOpIn (Fence.wide.inRound l) n P ops Q i K a w := by
  unfold wpOp at h
  unfold wpOpIn
  cases ho : ops[i]? with
  | none => simpa [ho] using h
  | some o =>
    simp only [ho] at h ⊢
    split at h
    · rename_i hw
      rw [if_pos hw]
      rcases h with h | ⟨_, h⟩
      · exact oper_wpIn_round (hnd i o ho) h
      · exact (hq h).elim
    · rename_i hw
      rw [if_neg hw]
      exact ⟨fun _ _ => trivial, h⟩

theorem wpAny_round {l n : Nat} {P : Program} {md : Region.Mode} {ops : Array Oper} {Q : Exit → Act → World → Prop} (hq : ¬ LetsOut Q) (hnd : ∀ (i : Nat) (o : Oper), ops[i]? = some o → ∀ c, o.op ≠ .defer c) : ∀ (fuel : Nat) (listed : Array Bool) (a : Act) (w : World), wpAny P md ops Q fuel listed a w → wpAnyIn (Fence.wide.inRound l) n P md ops Q fuel listed a w := by
  intro fuel
  induction fuel with
  | zero => intro listed a w h; exact h
  | succ fuel ih =>
    intro listed a w h
    exact ⟨h.1, fun i hi => wpOpIn_mono (fun a w h => ih _ a w h) (wpOp_round hq hnd (h.2 i hi))⟩

def noDefer (ops : Array Oper) : Bool := ops.all fun o => match o.op with | .defer _ => false | _ => true
theorem noDefer_out {ops : Array Oper} (h : noDefer ops = true) (i : Nat) (o : Oper) (ho : ops[i]? = some o) : ∀ c, o.op ≠ .defer c := by
  intro c hc
  have := Array.all_eq_true.1 h
  obtain ⟨hi, e⟩ := Array.getElem?_eq_some_iff.1 ho
  have := this i hi
  rw [e] at this
  simp [hc] at this

/-- A post that lets neither a panic nor an outgrown stack through. -/
def Calm (Q : Exit → Act → World → Prop) : Exit → Act → World → Prop
  | .panic _, _, _ => False
  | .outgrown, _, _ => False
  | e, a, w => Q e a w
theorem Calm.normal {Q : Exit → Act → World → Prop} {a : Act} {w : World} (h : Q .normal a w) : Calm Q .normal a w := h
theorem Calm.imp {Q : Exit → Act → World → Prop} : ∀ (e : Exit) (a : Act) (w : World), Calm Q e a w → Q e a w := fun e a w h => by
  cases e <;> first | exact h | exact (h : False).elim
theorem Calm.shut (Q : Exit → Act → World → Prop) : ¬ LetsOut (Calm Q) := fun ⟨_, _, h⟩ => h

theorem wpIn_region_round_held {l n id : Nat} {P : Program} {ops : Array Oper} {Q : Exit → Act → World → Prop} {S : World → Prop} {a : Act} {w : World} (hm : P.follows .mixedOrders = true) (hnd : noDefer ops = true) (hS : S w.drew)
    (h : S w.drew → wpAnyH P .any ops (Calm Q) S ops.size (Array.replicate ops.size false) a w.drew) : (Code.region id ops true).wpIn (Fence.wide.inRound l) n P Q a w :=
  wpIn_mono (wpIn_region_any hm (wpAny_round (Calm.shut Q) (noDefer_out hnd) _ _ _ _ (wpAny_of_held _ _ _ _ (h hS)))) Calm.imp

theorem wpListIn_of_wpList {l n : Nat} {P : Program} {ops : Array Oper} {Q : Exit → Act → World → Prop} (hq : ¬ LetsOut Q) : ∀ (rest : List Oper) (_ : ∀ o ∈ rest, ∀ c, o.op ≠ .defer c) (a : Act) (w : World), wpList P ops Q rest a w → wpListIn (Fence.wide.inRound l) n P ops Q rest a w
  | [], _, _, _, h => h
  | o :: rest, hnd, a, w, h => by
    simp only [wpList] at h
    simp only [wpListIn]
    split at h
    · rename_i hw
      rw [if_pos hw]
      rcases h with h | ⟨_, h⟩
      · exact Oper.wpIn_mono (fun a w h => wpListIn_of_wpList hq rest (fun o ho => hnd o (List.mem_cons_of_mem _ ho)) a w h) (oper_wpIn_round (hnd o List.mem_cons_self) h)
      · exact (hq h).elim
    · rename_i hw
      rw [if_neg hw]
      exact ⟨fun _ _ => trivial, wpListIn_of_wpList hq rest (fun o ho => hnd o (List.mem_cons_of_mem _ ho)) _ w h⟩

theorem wpIn_region_round_list {l n id : Nat} {P : Program} {ops : List Oper} {Q : Exit → Act → World → Prop} {a : Act} {w : World} (hnd : noDefer ops.toArray = true)
    (h : wpList P ops.toArray (Calm Q) ops a w) : (Code.region id ops.toArray false).wpIn (Fence.wide.inRound l) n P Q a w :=
  wpIn_mono (wpIn_region_lit (wpListIn_of_wpList (Calm.shut Q) ops (fun o ho => by
    obtain ⟨i, hi, e⟩ := List.getElem_of_mem ho
    exact noDefer_out hnd i o (by simp [hi, e])) a w h)) Calm.imp

/-! The moves of a walk over a region that is written out as a list. -/
theorem drop_get {l rest : List Oper} {i : Nat} {o : Oper} (h : l.drop i = o :: rest) : l.toArray[i]? = some o := by
  have := congrArg (fun x => x[0]?) h
  simpa using this
theorem rh_take {P : Program} {md : Region.Mode} {l rest : List Oper} {Q : Exit → Act → World → Prop} {S : World → Prop} {i : Nat} {oi : Oper} {v : Value} {fuel : Nat} {listed : Array Bool} {a : Act} {w : World} (hl : l.drop i = oi :: rest)
    (hs : Region.noSelect l.toArray = true) (hf : Region.free md l.toArray listed i = true) (hr : (Region.ready md l.toArray listed).contains i = true)
    (hw : Region.wanted oi (yielded l.toArray a.tmps) = true) (hS : S w) (hy : ∀ w, S w → (execOp a.eval oi).run P w = .ok (.value v) w)
    (h : wpAnyH P md l.toArray (Calm Q) S fuel (listed.setIfInBounds i true) (a.put oi.dst v) w) : wpAnyH P md l.toArray (Calm Q) S (fuel + 1) listed a w :=
  wpAnyH_take (drop_get hl) hs hf hr (fun _ _ _ h => h) (Or.inl ⟨hw, hy⟩) hS h
theorem rh_cons {P : Program} {md : Region.Mode} {l rest : List Oper} {Q : Exit → Act → World → Prop} {S : World → Prop} {fuel : Nat} {listed : Array Bool} {a : Act} {w : World} {i : Nat} {o : Oper} {rs : List Nat} (hl : l.drop i = o :: rest)
    (h : ∀ K' : Act → World → Prop, Shut (∀ a w, S w → (S w → wpAnyH P md l.toArray Q S fuel (listed.setIfInBounds i true) a w) → K' a w) → if Region.wanted o (yielded l.toArray a.tmps) = true then Oper.wp P o a w K' Q else K' (a.put o.dst undef) w)
    (hs : AllReadyH P md l.toArray Q S fuel listed a w rs) : AllReadyH P md l.toArray Q S fuel listed a w (i :: rs) := AllReadyH.cons (drop_get hl) h hs
theorem rp_take {P : Program} {md : Region.Mode} {l rest : List Oper} {Q : Exit → Act → World → Prop} {S : World → Prop} {i : Nat} {oi : Oper} {v : Value} {fuel : Nat} {listed : Array Bool} {a : Act} {w : World} (hl : l.drop i = oi :: rest)
    (hs : Region.noSelect l.toArray = true) (hf : Region.free md l.toArray listed i = true) (hr : (Region.ready md l.toArray listed).contains i = true)
    (hw : Region.wanted oi (yielded l.toArray a.tmps) = true) (hS : S w) (hy : ∀ w, S w → (execOp a.eval oi).run P w = .ok (.value v) w)
    (hQ : ∀ c a w, Q (.panic c) (a.put oi.dst v) w → Q (.panic c) a w)
    (h : wpAnyH P md l.toArray Q S fuel (listed.setIfInBounds i true) (a.put oi.dst v) w) : wpAnyH P md l.toArray Q S (fuel + 1) listed a w :=
  wpAnyH_take (drop_get hl) hs hf hr hQ (Or.inl ⟨hw, hy⟩) hS h
end Go.Proofs.YtoolanjbmbcaiaaGreatDoor
namespace Go.Proofs.YtoolanjbmbcaiaaGreatDoor.Bf
/-- One round of a division bit by bit: the remainder takes a bit; if it is great enough, it is reduced. -/
def dstep (U M : Nat) (s : Nat × Nat) (x : Nat × Nat) : Nat × Nat :=
  if U ≤ (2 * s.1 + x.2) % 18446744073709551616 ^ M then ((2 * s.1 + x.2) % 18446744073709551616 ^ M - U, s.2 ||| 2 ^ x.1) else ((2 * s.1 + x.2) % 18446744073709551616 ^ M, s.2)

/-- The bits of V below `many`, the greatest first: the first k of them. -/
def bitsOf (V many : Nat) (k : Nat) : List (Nat × Nat) := (List.range k).map fun j => (many - 1 - j, V / 2 ^ (many - 1 - j) % 2)
theorem bitsOf_succ (V many k : Nat) : bitsOf V many (k + 1) = bitsOf V many k ++ [(many - 1 - k, V / 2 ^ (many - 1 - k) % 2)] := by simp [bitsOf, List.range_succ]
theorem bitsOf_length (V many k : Nat) : (bitsOf V many k).length = k := by simp [bitsOf]

theorem or_pow (K i : Nat) : (2 ^ (i + 1) * K) ||| 2 ^ i = 2 ^ (i + 1) * K + 2 ^ i := by
  apply Nat.eq_of_testBit_eq
  intro b
  rw [Nat.or_comm, Nat.add_comm (2 ^ (i + 1) * K), Nat.mul_comm (2 ^ (i + 1))]
  have hlt : 2 ^ i < 2 ^ (i + 1) := Nat.pow_lt_pow_right (by omega) (by omega)
  rw [Nat.testBit_or, testBit_add_shift hlt]
  by_cases hb : b < i + 1
  · rw [if_pos hb, Nat.mul_comm K, Nat.testBit_two_pow_mul]
    simp; intro h; omega
  · rw [if_neg hb, Nat.mul_comm K, Nat.testBit_two_pow_mul, Nat.testBit_two_pow]
    have : ¬ i = b := by omega
    simp [this]; intro h; omega

theorem dstep_all {V U M many : Nat} (hU : 0 < U) (hM : 2 * U ≤ 18446744073709551616 ^ M) (h : V / 2 ^ many < U) : ∀ k, k ≤ many →
    (bitsOf V many k).foldl (dstep U M) (V / 2 ^ many, 0) = ((V / 2 ^ (many - k)) % U, V / U / 2 ^ (many - k) * 2 ^ (many - k)) := by
  intro k
  induction k with
  | zero =>
    intro _
    have e : V / U / 2 ^ many = 0 := by
      rw [Nat.div_div_eq_div_mul, Nat.mul_comm, ← Nat.div_div_eq_div_mul]; exact Nat.div_eq_of_lt h
    simp [bitsOf, Nat.mod_eq_of_lt h, e]
  | succ k ih =>
    intro hk
    rw [bitsOf_succ, List.foldl_append, ih (by omega)]
    obtain ⟨i, hi⟩ : ∃ i, many - k = i + 1 := ⟨many - k - 1, by omega⟩
    rw [show many - 1 - k = i from by omega, show many - (k + 1) = i from by omega, hi]
    have hs := div_bit_step (V := V) (b := U) (i := i) hU
    have hr := Nat.mod_lt (V / 2 ^ (i + 1)) hU
    have ht : V / 2 ^ i % 2 < 2 := Nat.mod_lt _ (by omega)
    simp only [List.foldl_cons, List.foldl_nil, dstep]
    rw [Nat.mod_eq_of_lt (by omega : 2 * (V / 2 ^ (i + 1) % U) + V / 2 ^ i % 2 < 18446744073709551616 ^ M)]
    split at hs
    · rename_i hc
      rw [if_pos hc, hs.1, hs.2]
      rw [Nat.mul_comm (V / U / 2 ^ (i + 1)), or_pow, Nat.pow_succ]
      congr 1
      generalize V / U / (2 ^ i * 2) = X
      rw [Nat.add_mul, Nat.one_mul, Nat.mul_comm 2 X, Nat.mul_assoc X, Nat.mul_comm 2 (2 ^ i), Nat.mul_comm X]
    · rename_i hc
      rw [if_neg hc, hs.1, hs.2]
      congr 1
      rw [Nat.pow_succ, Nat.mul_comm 2, Nat.mul_assoc, Nat.mul_comm 2]

theorem dstep_end {V U M many : Nat} (hU : 0 < U) (hM : 2 * U ≤ 18446744073709551616 ^ M) (h : V / 2 ^ many < U) :
    (bitsOf V many many).foldl (dstep U M) (V / 2 ^ many, 0) = (V % U, V / U) := by
  rw [dstep_all hU hM h many (Nat.le_refl _)]; simp

/-- The bit that comes into word k. -/
def carry (R bit k : Nat) : Nat := if k = 0 then bit else word R (k - 1) / 2 ^ 63
theorem carry_lt {R bit : Nat} (hb : bit < 2) (k : Nat) : carry R bit k < 2 := by
  unfold carry
  split
  · exact hb
  · exact Nat.div_lt_of_lt_mul (by simpa using word_lt R (k - 1))
theorem double_word (R bit k : Nat) (hb : bit < 2) : word (2 * R + bit) k = (word R k <<< 1) % 18446744073709551616 ||| carry R bit k := by
  apply Nat.eq_of_testBit_eq
  intro b
  have hT : ∀ x, (2 * R + bit).testBit x = if x = 0 then bit.testBit 0 else R.testBit (x - 1) := fun x => by
    have := testBit_add_shift (V := bit) (c := R) (k := 1) (b := x) (by simpa using hb)
    rw [Nat.pow_one, Nat.mul_comm R 2, Nat.add_comm bit] at this
    rw [this]
    by_cases hx : x = 0
    · subst hx; simp
    · rw [if_neg (by omega), if_neg hx]
  have hc : (carry R bit k).testBit b = (decide (b = 0) && if k = 0 then bit.testBit 0 else R.testBit (64 * k - 1)) := by
    by_cases hb0 : b = 0
    · subst hb0
      unfold carry
      by_cases hk : k = 0
      · simp [hk]
      · simp only [if_neg hk, decide_true, Bool.true_and]
        rw [Nat.testBit_div_two_pow, testBit_word]
        rw [show 64 * (k - 1) + (0 + 63) = 64 * k - 1 from by omega]; simp
    · have := carry_lt (R := R) hb k
      rw [Nat.testBit_lt_two_pow (Nat.lt_of_lt_of_le this (by have := Nat.one_lt_two_pow (n := b) hb0; omega))]
      simp [hb0]
  rw [testBit_word, hT, Nat.testBit_or, hc]
  have hm : (18446744073709551616 : Nat) = 2 ^ 64 := by decide
  rw [hm, Nat.testBit_mod_two_pow, Nat.testBit_shiftLeft, testBit_word]
  by_cases hb0 : b = 0
  · subst hb0
    by_cases hk : k = 0
    · simp [hk]
    · simp [hk]; intro h; omega
  · by_cases h64 : b < 64
    · have e : 64 * k + b - 1 = 64 * k + (b - 1) := by omega
      simp [hb0, h64, e, show 1 ≤ b from by omega, show b - 1 < 64 from by omega]
    · simp [hb0, h64]
theorem carry_succ (R bit k : Nat) : carry R bit (k + 1) = word R k / 2 ^ 63 := by simp [carry]

theorem or_word (Q i j : Nat) : word (Q ||| 2 ^ i) j = if j = i / 64 then word Q j ||| 2 ^ (i % 64) else word Q j := by
  apply Nat.eq_of_testBit_eq
  intro b
  rw [testBit_word, Nat.testBit_or, Nat.testBit_two_pow]
  by_cases hj : j = i / 64
  · rw [if_pos hj, Nat.testBit_or, testBit_word, Nat.testBit_two_pow]
    by_cases h64 : b < 64
    · have : (i = 64 * j + b) = (i % 64 = b) := by apply propext; omega
      simp [h64, this]
    · have : ¬ i % 64 = b := by omega
      simp [h64, this]
  · rw [if_neg hj, testBit_word]
    by_cases h64 : b < 64
    · have : ¬ (i = 64 * j + b) := by omega
      simp [h64, this]
    · simp [h64]
end Go.Proofs.YtoolanjbmbcaiaaGreatDoor.Bf
namespace Go.Proofs.YtoolanjbmbcaiaaGreatDoor
open Go.RowKit Bf
attribute [local go_sem ↓] Go.wp_at_zero Go.wp_at_succ

set_option maxRecDepth 100000 in
set_option maxHeartbeats 400000 in
theorem low_any (A : Option Addr) (n c : Nat) (many : Int) (w : World) :
    Calls Tryz.prog 143 #[.slice A n c, .int .i64 many] w fun e w' => e = .returned (.func (.func 173) #[] #[.pointer (some ⟨w.heap.size + 1, 0, none⟩), .pointer (some ⟨w.heap.size, 0, none⟩)]) ∧
      w' = (w.alloc (.cells #[.slice A n c] 99)).alloc (.cells #[.int .i64 many] 3) := by
  go_enter Tryz.func143, Tryz.ntmps143
  go_wp2
  go_ret
  exact ⟨rfl, rfl⟩
end Go.Proofs.YtoolanjbmbcaiaaGreatDoor
namespace Go.Proofs.YtoolanjbmbcaiaaGreatDoor
open Go Go.RowKit Bf
attribute [local go_sem] Oper.semAt_some

abbrev LowX (L : Nat) := { x : Nat × Nat // x.1 < L ∧ x.2 < 2 }
def lowEncs (L : Nat) (x : LowX L) : Array Value := #[.int .i64 (x.1.1 : Int), .int .u64 (x.1.2 : Int)]
/-- What lies in two blocks stays. -/
def Keep2 (b d : Nat) (W W' : World) : Prop := ∀ (p : Addr) (v : Value), (p.block = b ∨ p.block = d) → W.cell? p = some v → W'.cell? p = some v
theorem Keep2.refl (b d : Nat) (W : World) : Keep2 b d W W := fun _ _ _ h => h
theorem Keep2.trans {b d : Nat} {A B C : World} (h : Keep2 b d A B) (k : Keep2 b d B C) : Keep2 b d A C := fun p v hp hc => k p v hp (h p v hp hc)
theorem Keep2.book {b d : Nat} {w : World} (W : World) (l : Nat) (o o' : Obj) (_ : w.heap.size ≤ l) (h : W.heap[l]? = some o) (ho : o.isCells = false) (_ : o.isWalk = false) : Keep2 b d W (W.putObj l o') :=
  fun _ _ _ hc => cell_kept hc (grownBy_putObj' W l o') (fun r e => by cases e; exact ⟨o, h, ho⟩)

def bitA (V many L : Nat) (h : 0 < many ∧ many ≤ L) (j : Nat) : LowX L := ⟨(many - 1 - j, V / 2 ^ (many - 1 - j) % 2), by show many - 1 - j < L; omega, Nat.mod_lt _ (by omega)⟩
def bitsA (V many L : Nat) (h : 0 < many ∧ many ≤ L) (k : Nat) : List (LowX L) := (List.range k).map (bitA V many L h)
theorem bitsA_succ (V many L : Nat) (h : 0 < many ∧ many ≤ L) (k : Nat) : bitsA V many L h (k + 1) = bitsA V many L h k ++ [bitA V many L h k] := by simp [bitsA, List.range_succ]
theorem bitsA_length (V many L : Nat) (h : 0 < many ∧ many ≤ L) (k : Nat) : (bitsA V many L h k).length = k := by simp [bitsA]
theorem bitsA_val (V many L : Nat) (h : 0 < many ∧ many ≤ L) (k : Nat) : (bitsA V many L h k).map (·.1) = bitsOf V many k := by simp [bitsA, bitsOf, bitA]

theorem bit_word (V i : Nat) : bits .and .u64 ((word V (i / 64) : Int) / 2 ^ (i % 64)) 1 = ((V / 2 ^ i % 2 : Nat) : Int) := by
  have e1 : (word V (i / 64) : Int) / 2 ^ (i % 64) = ((word V (i / 64) / 2 ^ (i % 64) : Nat) : Int) := by simp
  rw [e1, show (1 : Int) = ((1 : Nat) : Int) from rfl, bits_and_u64_nat _ _ (Nat.lt_of_le_of_lt (Nat.div_le_self _ _) (word_lt V _)) (by omega)]
  congr 1
  rw [Nat.and_one_is_mod]
  have h1 : (word V (i / 64) / 2 ^ (i % 64)).testBit 0 = (V / 2 ^ i).testBit 0 := by
    rw [Nat.testBit_div_two_pow, testBit_word, Nat.testBit_div_two_pow]
    have : i % 64 < 64 := Nat.mod_lt _ (by omega)
    rw [show 64 * (i / 64) + (0 + i % 64) = 0 + i from by omega]; simp [this]
  simp only [Nat.testBit_zero] at h1
  have := Nat.mod_lt (word V (i / 64) / 2 ^ (i % 64)) (show 2 > 0 by omega)
  have := Nat.mod_lt (V / 2 ^ i) (show 2 > 0 by omega)
  have := decide_eq_decide.1 h1
  omega

set_option maxRecDepth 100000 in
set_option maxHeartbeats 2000000 in
theorem low1_in (nn : Nat) (hnn : 1 ≤ nn) (l b n c V many L Bm Bw : Nat) (h : 0 < many ∧ many ≤ L) (hm : many ≤ 64 * n) (hn : n ≤ 65536) (J Jx : List (LowX L) → World → Prop)
    (hY : ∀ pre x W, J pre W → pre.length < many → YieldAt Fence.wide (nn - 1) Tryz.prog l (lowEncs L x) W fun e W' =>
      (e = .returned (.bool true) ∧ J (pre ++ [x]) W' ∧ Keep2 b Bw W W') ∨ (e = .returned (.bool false) ∧ Jx (pre ++ [x]) W'))
    (W : World) (hBm : W.cell? ⟨Bm, 0, none⟩ = some (.int .i64 (many : Int))) (hBw : W.cell? ⟨Bw, 0, none⟩ = some (.slice (some ⟨b, 0, none⟩) n c)) (hc : Wds W b n V) (h0 : J [] W) :
    CallsIn Fence.wide nn Tryz.prog 173 #[.func (.yield l) #[] #[], .pointer (some ⟨Bm, 0, none⟩), .pointer (some ⟨Bw, 0, none⟩)] W fun e W' => (∃ v, e = .returned v) ∧
      ((∃ ys, ys = bitsA V many L h many ∧ J ys W') ∨ (∃ pre, True ∧ Jx pre W')) := by
  have HC := Lib.hid hc
  clear hc
  refine callsIn_of_wp Tryz.func173 rfl trivial ?_ rfl
  simp only [Tryz.ntmps173, List.size_toArray, List.length_cons, List.length_nil, Nat.reduceAdd, Nat.reduceSub, Array.replicate_succ, Array.replicate_zero, List.push_toArray, List.append_toArray, List.nil_append, List.cons_append]
  gi_wp2
  gi_loopw [4] (fun i wr => ∃ k : Nat, k ≤ many ∧ i = .int .i64 ((many : Int) - 1 - k) ∧ J (bitsA V many L h k) wr ∧ Keep2 b Bw W wr) (fun i _ => (intOf i + 1).toNat)
  case atStart => exact ⟨0, Nat.zero_le _, by simp, h0, Keep2.refl _ _ _⟩
  case round =>
    obtain ⟨k, hk, rfl, hJs, hnx⟩ := hrel
    by_cases hlt : k < many
    · obtain ⟨i, hi⟩ : ∃ i : Nat, many - 1 - k = i := ⟨_, rfl⟩
      have e1 : (many : Int) - 1 - k = (i : Int) := by omega
      rw [e1]
      obtain ⟨fn, tmps, assign, body, hy, hR⟩ := hY _ (bitA V many L h k) wr hJs (by rw [bitsA_length]; exact hlt)
      simp only [lowEncs, bitA, hi] at hy
      have hcx := hnx ⟨Bw, 0, none⟩ _ (.inr rfl) hBw
      have hcw := hnx ⟨b, i / 64, none⟩ _ (.inl rfl) (HC.out (i / 64) (by omega))
      have hbit := bit_word V i
      have hi0 : i < many := by omega
      generalize V / 2 ^ i % 2 = bit at *
      gi_wp2
      refine hR.mono ?_
      rintro e W3 (⟨rfl, hJ3, hk3⟩ | ⟨rfl, hJx3⟩)
      · gi_wp2
        go_roundw
        case rel => exact ⟨k + 1, by omega, by congr 1; omega, by rw [bitsA_succ]; exact hJ3, hnx.trans hk3⟩
        case measure => simp [intOf]
      · gi_wp2
        refine bodyPost_ret (results_none rfl _ _ _) rfl ?_
        exact ⟨⟨_, rfl⟩, .inr ⟨_, trivial, hJx3⟩⟩
    · obtain rfl : k = many := by omega
      have e1 : (k : Int) - 1 - k = -1 := by omega
      rw [e1]
      gi_wp2
      go_end0
      exact ⟨⟨_, rfl⟩, .inl ⟨_, rfl, hJs⟩⟩

/-- The value that low hands back, as a sequence. -/
theorem low_stops (nn : Nat) (hnn : 1 ≤ nn) (b n c V many L Bm Bw : Nat) (h : 0 < many ∧ many ≤ L) (hm : many ≤ 64 * n) (hn : n ≤ 65536) (w : World) (hbm : Bm < w.heap.size) (hbw : Bw < w.heap.size) (hb : b < w.heap.size)
    (hBm : w.cell? ⟨Bm, 0, none⟩ = some (.int .i64 (many : Int))) (hBw : w.cell? ⟨Bw, 0, none⟩ = some (.slice (some ⟨b, 0, none⟩) n c)) (hc : Wds w b n V) :
    SeqStopsK Fence.wide nn Tryz.prog 173 #[.pointer (some ⟨Bm, 0, none⟩), .pointer (some ⟨Bw, 0, none⟩)] (lowEncs L) (Keep2 b Bw) (fun xs => xs = bitsA V many L h many) (fun _ => True) many w := fun l J Jx W hW _ _ hY h0 =>
  low1_in nn hnn l b n c V many L Bm Bw h hm hn J Jx hY W ((hW.cell (p := ⟨Bm, 0, none⟩) hbm).trans hBm) ((hW.cell (p := ⟨Bw, 0, none⟩) hbw).trans hBw) (hc.below hW hb) h0
end Go.Proofs.YtoolanjbmbcaiaaGreatDoor
namespace Go.Proofs.YtoolanjbmbcaiaaGreatDoor
open Go.RowKit Bf
attribute [local go_sem ↓] Go.wp_at_zero Go.wp_at_succ
attribute [local go_sem] Oper.semAt_some

theorem many_facts {n m V U : Nat} (hV : Trim n V) (hU : Trim m U) (hn : n ≤ 4096) (hm2 : 2 ≤ m) (hge : U ≤ V) : ∃ many : Nat, (nbits V : Int) - (nbits U : Int) + 1 = (many : Int) ∧ 0 < many ∧ many ≤ 64 * n ∧ V / 2 ^ many < U ∧ nbits U ≤ nbits V ∧ nbits V ≤ 262144 := by
  have hU0 : U ≠ 0 := fun e => by have := (trim_zero_iff hU).2 e; omega
  have hV0 : V ≠ 0 := by omega
  obtain ⟨a1, a2, a3⟩ := nbits_bounds hV0
  obtain ⟨b1, b2, b3⟩ := nbits_bounds hU0
  have hle : nbits U ≤ nbits V := nbits_le (Nat.lt_of_le_of_lt hge a3)
  have hn' : nbits V ≤ 64 * n := nbits_le (by rw [← wpow_two]; exact hV.1)
  refine ⟨nbits V - nbits U + 1, by omega, by omega, by omega, ?_, hle, by omega⟩
  refine Nat.lt_of_lt_of_le (Nat.div_lt_of_lt_mul ?_) b2
  rw [← Nat.pow_add, show nbits V - nbits U + 1 + (nbits U - 1) = nbits V from by omega]
  exact a3

theorem made_replicate (v : Value) (N : Nat) : madeCells #[v] N = (List.replicate N v).toArray := by
  apply Array.ext
  · simp [madeCells]
  · intro i h1 h2
    simp [madeCells, Nat.mod_one]

theorem row_splice {W : World} {g N V : Nat} (hV : V < 18446744073709551616 ^ N) (h : W.heap[g]? = some (.cells (splice (List.replicate N (Value.int .u64 0)) 0 ((List.range (wlen V)).map fun j => Value.int .u64 (word V j : Int))).toArray 131 (0, 0))) : Row W g N (word V) := by
  have hl := wlen_le hV
  refine ⟨_, h, by simp [splice]; omega, fun i hi => ?_⟩
  simp only [splice, List.take_zero, List.nil_append, List.getElem?_toArray]
  by_cases hw : i < wlen V
  · rw [List.getElem?_append_left (by simpa using hw)]
    simp [hw]
  · rw [List.getElem?_append_right (by simpa using hw), word_of_lt (Nat.lt_of_lt_of_le (wlen_trim V).1 (Nat.pow_le_pow_right (by omega) (by omega)))]
    simp only [List.length_map, List.length_range, Nat.zero_add, List.drop_replicate, List.getElem?_replicate]
    rw [if_pos (by omega)]; rfl

/-- The state of a division bit by bit: the remainder R, the quotient Q. -/
structure DivSt (w wr : World) (b' n m c' R Q : Nat) : Prop where
  cb : wr.cell? ⟨w.heap.size, 0, none⟩ = some (.slice (some ⟨b', 0, none⟩) m c')
  cq : wr.cell? ⟨w.heap.size + 1, 0, none⟩ = some (.slice (some ⟨w.heap.size + 3, 0, none⟩) n n)
  cr : wr.cell? ⟨w.heap.size + 1 + 1, 0, none⟩ = some (.slice (some ⟨w.heap.size + 4, 0, none⟩) (m + 1) (m + 1))
  fq : wr.frozen? ⟨w.heap.size + 1, 0, none⟩ = false
  fr : wr.frozen? ⟨w.heap.size + 1 + 1, 0, none⟩ = false
  rq : Row wr (w.heap.size + 3) n (word Q)
  rr : Row wr (w.heap.size + 4) (m + 1) (word R)
  bel : Below w.heap.size w wr

theorem DivSt.of_blocks {w A B : World} {b' n m c' R Q : Nat} (h : DivSt w A b' n m c' R Q) (e : ∀ x, w.heap.size ≤ x → x ≤ w.heap.size + 4 → B.heap[x]? = A.heap[x]?) (hb : Below w.heap.size w B) : DivSt w B b' n m c' R Q :=
  ⟨(World.cell?_of_block (e _ (by simp) (by simp))).trans h.cb, (World.cell?_of_block (e _ (by simp) (by simp))).trans h.cq, (World.cell?_of_block (e _ (by simp; omega) (by simp))).trans h.cr,
   (World.frozen?_of_block (e _ (by simp) (by simp))).trans h.fq, (World.frozen?_of_block (e _ (by simp; omega) (by simp))).trans h.fr, h.rq.of_block (e _ (by omega) (by omega)), h.rr.of_block (e _ (by omega) (by omega)), hb⟩

theorem word_mod (x M j : Nat) (hj : j < M) : word (x % 18446744073709551616 ^ M) j = word x j := by
  apply Nat.eq_of_testBit_eq
  intro b
  rw [testBit_word, testBit_word, wpow_two, Nat.testBit_mod_two_pow]
  by_cases hb : b < 64
  · simp [hb]; intro _; omega
  · simp [hb]

/-- Between two worlds at most the blocks h + 3 and h + 4 have changed. -/
structure Only34 (h : Nat) (W W' : World) : Prop where
  os : W'.os = W.os
  tape : W'.tape = W.tape
  output : W'.output = W.output
  size : W'.heap.size = W.heap.size
  block : ∀ k, k ≠ h + 3 → k ≠ h + 4 → W'.heap[k]? = W.heap[k]?
theorem Only34.refl (h : Nat) (W : World) : Only34 h W W := ⟨rfl, rfl, rfl, rfl, fun _ _ _ => rfl⟩
theorem Only34.trans {h : Nat} {A B C : World} (p : Only34 h A B) (q : Only34 h B C) : Only34 h A C :=
  ⟨q.os.trans p.os, q.tape.trans p.tape, q.output.trans p.output, q.size.trans p.size, fun k h1 h2 => (q.block k h1 h2).trans (p.block k h1 h2)⟩
theorem Only34.drewN {h : Nat} {A B : World} (p : Only34 h A B) (n : Nat) : Only34 h A (B.drewN n) := ⟨p.os, p.tape, p.output, p.size, p.block⟩
theorem Only34.drew {h : Nat} {A B : World} (p : Only34 h A B) : Only34 h A B.drew := ⟨p.os, p.tape, p.output, p.size, p.block⟩
theorem Only34.of_grown {h : Nat} {A B : World} (hg : A.grownBy B (some (h + 4))) (hs : B.heap.size = A.heap.size) : Only34 h A B :=
  ⟨hg.os, hg.tape, hg.output, hs, fun k _ h2 => by
    by_cases hk : k < A.heap.size
    · exact hg.block k hk (fun e => h2 (Option.some.inj e))
    · rw [Array.getElem?_eq_none (by omega), Array.getElem?_eq_none (by omega)]⟩
theorem Only34.set {h j : Nat} {A B : World} (p : Only34 h A B) (v : Value) : Only34 h A (B.setCell ⟨h + 3, j, none⟩ v) :=
  ⟨p.os, p.tape, p.output, by simp [World.setCell, p.size], fun k h1 h2 => (Below.heap_setCell _ _ _ _ h1).trans (p.block k h1 h2)⟩
theorem Row.block_cells {w : World} {b N : Nat} {f : Nat → Nat} (h : Row w b N f) {o : Obj} (ho : w.heap[b]? = some o) : o.isCells = true := by
  obtain ⟨cur, h1, _⟩ := h
  rw [h1] at ho; cases ho; rfl
theorem Only34.keeps {h N M : Nat} {A B : World} {f g : Nat → Nat} (p : Only34 h A B) (h3 : Row A (h + 3) N f) (h4 : Row A (h + 4) M g) : KeepsOthers A B :=
  ⟨Nat.le_of_eq p.size.symm, fun k o hk ho => by
    by_cases e3 : k = h + 3
    · subst e3; have := h3.block_cells hk; rw [this] at ho; cases ho
    by_cases e4 : k = h + 4
    · subst e4; have := h4.block_cells hk; rw [this] at ho; cases ho
    exact (p.block k e3 e4).trans hk⟩
theorem Only34.keep2 {h b d : Nat} {A B : World} (p : Only34 h A B) (hb : b < h) (hd : h + 4 < d) : Keep2 b d A B := fun q v hq hc => by
  refine (World.cell?_of_block (p.block _ ?_ ?_)).trans hc <;> rcases hq with e | e <;> omega
theorem Only34.below {w A B : World} (p : Only34 w.heap.size A B) (hb : Below w.heap.size w A) : Below w.heap.size w B :=
  ⟨p.os.trans hb.os, p.tape.trans hb.tape, p.output.trans hb.output, by have := hb.size; have := p.size; omega, fun k hk => (p.block k (by omega) (by omega)).trans (hb.block k hk)⟩
theorem DivSt.next {w A B : World} {b' n m c' R Q R' Q' : Nat} (h : DivSt w A b' n m c' R Q) (p : Only34 w.heap.size A B) (hq : Row B (w.heap.size + 3) n (word Q')) (hr : Row B (w.heap.size + 4) (m + 1) (word R')) : DivSt w B b' n m c' R' Q' :=
  ⟨(World.cell?_of_block (p.block _ (by simp) (by simp))).trans h.cb, (World.cell?_of_block (p.block _ (by simp) (by simp))).trans h.cq, (World.cell?_of_block (p.block _ (by simp) (by simp))).trans h.cr,
   (World.frozen?_of_block (p.block _ (by simp) (by simp))).trans h.fq, (World.frozen?_of_block (p.block _ (by simp) (by simp))).trans h.fr, hq, hr, p.below h.bel⟩
theorem grown_setc (w : World) (a : Addr) (u : Value) : w.grownBy (w.setCell a u) (some a.block) :=
  ⟨rfl, rfl, rfl, by simp [World.setCell], fun k _ hr => Below.heap_setCell _ _ _ _ (fun e => hr (by rw [e]))⟩

/-- One round of doubling. -/
theorem double_round {W wr : World} {h k m R bit : Nat} (hlt : k < m + 1) (hbit : bit < 2) (hrow : Row wr h (m + 1) (mix k (word (2 * R + bit)) (word R))) (hgr : W.grownBy wr (some h)) (hsz : wr.heap.size = W.heap.size) :
    (∃ k_1 : Nat, k_1 ≤ m + 1 ∧ Value.int IntKind.i64 ((k : Int) + 1) = Value.int IntKind.i64 (k_1 : Int) ∧ Value.int IntKind.u64 ((word R k : Int) / 9223372036854775808) = Value.int IntKind.u64 (carry R bit k_1 : Int) ∧
      Row (wr.setCell ⟨h, k, none⟩ (.int .u64 (bits .or .u64 (IntKind.u64.wrap ((word R k : Int) * 2)) (carry R bit k : Int)))).drew h (m + 1) (mix k_1 (word (2 * R + bit)) (word R)) ∧
      W.grownBy (wr.setCell ⟨h, k, none⟩ (.int .u64 (bits .or .u64 (IntKind.u64.wrap ((word R k : Int) * 2)) (carry R bit k : Int)))).drew (some h) ∧
      (wr.setCell ⟨h, k, none⟩ (.int .u64 (bits .or .u64 (IntKind.u64.wrap ((word R k : Int) * 2)) (carry R bit k : Int)))).drew.heap.size = W.heap.size) := by
  have hw := word_lt R k
  have hv : bits .or .u64 (IntKind.u64.wrap ((word R k : Int) * 2)) (carry R bit k : Int) = ((word (2 * R + bit) k : Nat) : Int) := by
    have e : IntKind.u64.wrap ((word R k : Int) * 2) = (((word R k <<< 1) % 18446744073709551616 : Nat) : Int) := by
      rw [Nat.shiftLeft_eq, IntKind.wrap_u64]; omega
    rw [e, bits_or_u64_nat _ _ (Nat.mod_lt _ (by omega)) (Nat.lt_trans (carry_lt hbit k) (by omega)), ← double_word R bit k hbit]
  refine ⟨k + 1, by omega, by congr 1, ?_, ?_, ?_, ?_⟩
  · rw [carry_succ]
    congr 1
  · refine (Row.drew (hrow.set k _ hv)).congr fun j _ => ?_
    simp only [mix]
    by_cases e : j = k
    · subst e; rw [if_pos rfl, if_pos (by omega)]
    · rw [if_neg e]
      by_cases e2 : j < k
      · rw [if_pos e2, if_pos (by omega)]
      · rw [if_neg e2, if_neg (by omega)]
  · exact hgr.trans ⟨rfl, rfl, rfl, by simp [World.setCell], (grown_setc wr ⟨h, k, none⟩ _).block⟩
  · rw [← hsz]; simp [World.setCell]
theorem or_row {w : World} {b n Q i : Nat} (h : Row w b n (word Q)) :
    Row (w.setCell ⟨b, i / 64, none⟩ (.int .u64 (bits .or .u64 (word Q (i / 64) : Int) (IntKind.u64.wrap (2 ^ (i % 64)))))).drew b n (word (Q ||| 2 ^ i)) := by
  have hp : 2 ^ (i % 64) ≤ 2 ^ 63 := Nat.pow_le_pow_right (by omega) (by omega)
  have hv : IntKind.u64.wrap (2 ^ (i % 64)) = ((2 ^ (i % 64) : Nat) : Int) := by
    rw [IntKind.wrap_u64, show (2 : Int) ^ (i % 64) = ((2 ^ (i % 64) : Nat) : Int) from by simp]
    generalize 2 ^ (i % 64) = p at *
    omega
  rw [hv, bits_or_u64_nat _ _ (word_lt Q _) (by omega)]
  refine (Row.drew (h.set (i / 64) _ rfl)).congr fun j _ => ?_
  rw [or_word]
  by_cases e : j = i / 64
  · rw [if_pos e, if_pos e, e]
  · rw [if_neg e, if_neg e]
end Go.Proofs.YtoolanjbmbcaiaaGreatDoor
