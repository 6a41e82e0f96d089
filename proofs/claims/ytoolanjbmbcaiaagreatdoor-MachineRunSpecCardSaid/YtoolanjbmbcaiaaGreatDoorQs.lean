/- The specification of the machine's Run: what it returns, for every program, choices, amount and fuel. -/
import Derived.Test.YtoolanjbmbcaiaaGreatDoorQr
namespace Go.Proofs.YtoolanjbmbcaiaaGreatDoor
open Go.RowKit Bf

theorem run17_any (v cv : Value) (l : List In) (c : List Int) (neg : Bool) (n d : ByteArray) (fuel : Int) (w : World) (hv : CodeV w v l) (hl : l.length ≤ 4096) (hc : IntsV w cv c) (hcl : c.length ≤ 4096) (hf : fuel < 9223372036854775808) :
    Calls Tryz.prog 8 #[v, cv, .agg #[.bool neg, .string n, .string d], .int .i64 fuel] w (RunRes w (runE l c neg n d fuel)) := by
  obtain ⟨A, cap, e1, hcode⟩ := id hv
  obtain ⟨A', cap', e2, _⟩ := id hc
  subst e1 e2
  by_cases hok : progOk l
  rotate_left
  · exact run17_code A A' cap cap' l c neg n d fuel w hv hc hl hok (progE_no hok)
  have hp := progE_ok hok
  by_cases hr : RatS neg n d
  rotate_left
  · exact run17_rat A A' cap cap' l c neg n d fuel w hv hc hl hok hp hr
  cases neg with
  | true => exact run17_neg A A' cap cap' l c true n d fuel w hv hc hl hok hp hr rfl
  | false =>
    rcases Nat.eq_zero_or_pos c.length with h0 | h0
    · exact run17_empty A A' cap cap' l c false n d fuel w hv hc hl hok hp hr rfl (List.length_eq_zero_iff.1 h0)
    by_cases hf0 : fuel < 0
    · exact run17_fuel A A' cap cap' l c false n d fuel w hv hc hl hok hp hr rfl h0 hf0
    obtain ⟨k, rfl⟩ : ∃ k : Nat, fuel = (k : Int) := ⟨fuel.toNat, by omega⟩
    have hne : ¬ (false = true ∨ c = [] ∨ (k : Int) < 0) := by
      rintro (h | h | h)
      · cases h
      · rw [h] at h0; simp at h0
      · omega
    obtain ⟨amt, ha, han, rfl, rfl⟩ := RatS.to hr
    rw [runE_run hok hr hne, bv_bs, bv_bs, Int.toNat_natCast]
    have ea : (⟨false, amt.n, amt.d⟩ : Rt) = amt := by
      obtain ⟨x, y, z⟩ := amt
      simp only at han
      rw [han]
    rw [ea]
    rcases hcode with rfl | ⟨b, off, rfl, hcd⟩
    · exact absurd hok.1 (by simp)
    · exact run17_good b off A' cap cap' c.length k l c amt w hcd hc rfl hl hcl h0 hok hp ha han (by omega) _ _ _ rfl rfl rfl
end Go.Proofs.YtoolanjbmbcaiaaGreatDoor
