/- Plain law: the run for a sum of two amounts, beside the runs for each of them. -/
import Derived.Test.YtiohceaddojedaaGreatDoorLd
namespace Go.Proofs.YtiohceaddojedaaGreatDoor
open Go.RowKit Bf

theorem bv_lt40 {s : ByteArray} (h : s.size ≤ 40) : bv s < B40 := by
  have h1 := bval_lt s.data.toList
  rw [size_eq] at h1
  exact Nat.lt_of_lt_of_le h1 (Nat.pow_le_pow_right (by omega) h)

/-- Instructions of a valid program with few bytes. -/
theorem inOk_of {l : List In} (h : progOk l) (hf : fewL l = true) : ∀ x ∈ l, InOk x := by
  intro x hx
  obtain ⟨i, hi⟩ := List.mem_iff_getElem?.1 hx
  have hv := h.2.2.1 i x hi
  have hs : fewB x.n x.d = true := by
    unfold fewL at hf
    exact List.all_eq_true.1 (Bool.and_eq_true_iff.1 hf).1 x hx
  have hs' : x.n.size ≤ 40 ∧ x.d.size ≤ 40 := by simpa [fewB] using hs
  unfold vldB at hv
  refine ⟨fun o => ?_, fun o => ?_, fun o => ?_, bv_lt40 hs'.1, bv_lt40 hs'.2⟩
  · rw [if_neg (by omega), if_neg (by omega), if_pos o] at hv
    simp only [Bool.and_eq_true] at hv
    obtain ⟨⟨⟨h1, h2⟩, _⟩, _⟩ := hv
    obtain ⟨r, hn⟩ := alz_iff.1 h1
    refine ⟨hn, ?_, ?_⟩
    · rw [empty_of r.1.1] at h2
      simp at h2
      omega
    · have := r.2.2.1; omega
  · have h1 : alz x.neg x.n x.d = true := by
      rcases o with o | o
      · rw [if_neg (by omega), if_neg (by omega), if_neg (by omega), if_pos o] at hv
        simp only [Bool.and_eq_true] at hv
        exact hv.1.1
      · rw [if_neg (by omega), if_neg (by omega), if_neg (by omega), if_neg (by omega), if_pos o] at hv
        simp only [Bool.and_eq_true] at hv
        exact hv.1.1
    obtain ⟨r, hn⟩ := alz_iff.1 h1
    exact ⟨hn, by have := r.2.2.1; omega⟩
  · rw [if_neg (by omega), if_neg (by omega), if_neg (by omega), if_neg (by omega), if_neg (by omega), if_pos o] at hv
    simp only [Bool.and_eq_true, btw, decide_eq_true_eq] at hv
    exact hv.2

/-- A run that ended well. -/
theorem runE_zero {l : List In} {c : List Int} {neg : Bool} {n d : ByteArray} {f : Int} (h : (runE l c neg n d f).1 = 0) : progOk l ∧ RatS neg n d ∧ neg = false ∧ c ≠ [] ∧ 0 ≤ f := by
  by_cases h1 : progOk l
  rotate_left
  · rw [runE_code h1] at h; cases h
  by_cases h2 : RatS neg n d
  rotate_left
  · rw [runE_rat h1 c h2] at h; cases h
  by_cases h3 : neg = true ∨ c = [] ∨ f < 0
  · rw [runE_arg h1 h2 h3] at h; cases h
  · refine ⟨h1, h2, ?_, fun e => h3 (.inr (.inl e)), ?_⟩
    · cases neg with
      | false => rfl
      | true => exact absurd (.inl rfl) h3
    · have : ¬ f < 0 := fun e => h3 (.inr (.inr e))
      omega

theorem B40_pos : 0 < B40 := Nat.pow_pos (by omega)
theorem B40_sum : 2 * (B40 * B40) ≤ LIM := by
  unfold B40 LIM
  rw [← Nat.pow_add]
  exact Nat.le_trans (Nat.mul_le_mul_right _ (show 2 ≤ 256 from by omega)) (by rw [← Nat.pow_succ']; exact Nat.pow_le_pow_right (by omega) (by omega))
theorem B120_sum : 2 * (B40 * (B40 * B40) * (B40 * (B40 * B40))) ≤ LIM := by
  unfold B40 LIM
  rw [← Nat.pow_add, ← Nat.pow_add, ← Nat.pow_add]
  exact Nat.le_trans (Nat.mul_le_mul_right _ (show 2 ≤ 256 from by omega)) (by rw [← Nat.pow_succ']; exact Nat.pow_le_pow_right (by omega) (by omega))

/-- What ratios.Add asks: no number on the way is too long. -/
def AddFits (p q : Rt) : Prop := p.n * q.d + q.n * p.d < LIM ∧ p.d * q.d < LIM
theorem Lt.fits {B : Nat} {p q : Rt} (hB : 2 * (B * B) ≤ LIM) (hp : Lt B p) (hq : Lt B q) : AddFits p q := by
  have h1 := Nat.mul_lt_mul'' hp.1 hq.2
  have h2 := Nat.mul_lt_mul'' hq.1 hp.2
  have h3 := Nat.mul_lt_mul'' hp.2 hq.2
  exact ⟨by omega, by omega⟩

theorem addR_ok {p q : Rt} (h : AddFits p q) (h1 : 0 < p.d) (h2 : 0 < q.d) : (addR p q).ok := lowR_ok h.1 h.2 (Nat.mul_pos h1 h2)

/-- The run for a sum. -/
theorem sums_plain (l : List In) (c : List Int) (na nb : Bool) (an ad bn bd : ByteArray) (f : Int) (hf : fewL l = true) (ha : an.size ≤ 40 ∧ ad.size ≤ 40) (hb : bn.size ≤ 40 ∧ bd.size ≤ 40)
    (h1 : (runE l c na an ad f).1 = 0) (h2 : (runE l c nb bn bd f).1 = 0) :
    ∃ p q : Rt, p.ok ∧ q.ok ∧ p.neg = false ∧ q.neg = false ∧ na = false ∧ nb = false ∧ an = bs p.n ∧ ad = bs p.d ∧ bn = bs q.n ∧ bd = bs q.d ∧ AddFits p q ∧
      Pair (runE l c na an ad f).2 (runE l c nb bn bd f).2 ∧
      ((runE l c false (bs (addR p q).n) (bs (addR p q).d) f).1 = 2 ∨ ((runE l c false (bs (addR p q).n) (bs (addR p q).d) f).1 = 0 ∧ Sim (runE l c na an ad f).2 (runE l c nb bn bd f).2 (runE l c false (bs (addR p q).n) (bs (addR p q).d) f).2)) := by
  obtain ⟨k1, r1, rfl, k2, k3⟩ := runE_zero h1
  obtain ⟨_, r2, rfl, _, _⟩ := runE_zero h2
  have la : Lt B40 ⟨false, bv an, bv ad⟩ := ⟨bv_lt40 ha.1, bv_lt40 ha.2⟩
  have lb : Lt B40 ⟨false, bv bn, bv bd⟩ := ⟨bv_lt40 hb.1, bv_lt40 hb.2⟩
  have fits := la.fits B40_sum lb
  have d1 : 0 < bv ad := by have := r1.2.2.1; omega
  have d2 : 0 < bv bd := by have := r2.2.2.1; omega
  refine ⟨⟨false, bv an, bv ad⟩, ⟨false, bv bn, bv bd⟩, ⟨short_lt r1.1, short_lt r1.2.1, d1, r1.2.2.2.1, r1.2.2.2.2⟩, ⟨short_lt r2.1, short_lt r2.2.1, d2, r2.2.2.2.1, r2.2.2.2.2⟩, rfl, rfl, rfl, rfl, (bs_bv r1.1.1).symm, (bs_bv r1.2.1.1).symm, (bs_bv r2.1.1).symm, (bs_bv r2.2.1.1).symm, fits, ?_⟩
  have hs := Sum3.of (p := ⟨false, bv an, bv ad⟩) (q := ⟨false, bv bn, bv bd⟩) rfl rfl d1 d2
  have hk := addR_ok fits d1 d2
  generalize addR ⟨false, bv an, bv ad⟩ ⟨false, bv bn, bv bd⟩ = s at *
  have hn : s.neg = false := hs.1.2.2
  have r3 := RatS.of hk
  rw [hn] at r3
  have hno : ¬ (false = true ∨ c = [] ∨ f < 0) := by
    rintro (h | h | h)
    · cases h
    · exact k2 h
    · omega
  rw [runE_run k1 r1 hno] at h1 ⊢
  rw [runE_run k1 r2 hno] at h2 ⊢
  rw [runE_run k1 r3 hno, bv_bs, bv_bs]
  have es : (⟨false, s.n, s.d⟩ : Rt) = s := by
    obtain ⟨a, b, d⟩ := s
    simp only at hn
    rw [hn]
  rw [es]
  exact ⟨runI_pair _ _ _ _ _ _ _ _ (begin0_pair _) h1 h2, runI_sum _ _ _ _ _ _ (inOk_of k1 hf) hs la lb _ _ _ _ (begin0_sim _) h1 h2⟩
end Go.Proofs.YtiohceaddojedaaGreatDoor
