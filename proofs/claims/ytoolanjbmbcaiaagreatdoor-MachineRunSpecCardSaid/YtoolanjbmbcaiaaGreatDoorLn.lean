/- How many uses and works a run has. -/
import Derived.Test.YtoolanjbmbcaiaaGreatDoorGd
namespace Go.Proofs.YtoolanjbmbcaiaaGreatDoor
open Go.RowKit Bf

theorem stepI_len (ch : List Int) (day : Int) (amt : Rt) (x : In) (s : Mst) : (∃ t, stepI ch day amt x s = .go t ∧ t.uses.length ≤ s.uses.length + 1 ∧ t.works.length ≤ s.works.length + 1) ∨ (∃ e, stepI ch day amt x s = .stop e s) := by
  unfold stepI
  by_cases h1 : x.op = 1
  · rw [if_pos h1]; exact .inl ⟨_, rfl, by simp, by simp⟩
  rw [if_neg h1]
  by_cases h2 : x.op = 2
  · rw [if_pos h2]; exact .inl ⟨_, rfl, by simp, by simp⟩
  rw [if_neg h2]
  by_cases h3 : x.op = 3
  · rw [if_pos h3]
    cases divR amt x.rt with
    | none => exact .inr ⟨_, rfl⟩
    | some q => exact .inl ⟨_, rfl, by simp, by simp⟩
  rw [if_neg h3]
  by_cases h4 : x.op = 4
  · rw [if_pos h4]
    cases mulR x.rt s.bat with
    | none => exact .inr ⟨_, rfl⟩
    | some q => exact .inl ⟨_, rfl, by simp, by simp⟩
  rw [if_neg h4]
  by_cases h5 : x.op = 5
  · rw [if_pos h5]
    cases mulR x.rt s.bat with
    | none => exact .inr ⟨_, rfl⟩
    | some q => exact .inl ⟨_, rfl, by simp, by simp⟩
  rw [if_neg h5]
  by_cases h6 : x.op = 6
  · rw [if_pos h6]
    cases ceilR s.bat with
    | none => exact .inr ⟨_, rfl⟩
    | some k =>
      by_cases hk : 1099511627776 < k
      · simp only [hk, if_true]; exact .inr ⟨_, rfl⟩
      · simp only [hk, if_false]; exact .inl ⟨_, rfl, by simp, by simp⟩
  rw [if_neg h6]
  by_cases h7 : x.op = 7
  · rw [if_pos h7]; exact .inr ⟨_, rfl⟩
  · rw [if_neg h7]; exact .inr ⟨_, rfl⟩

theorem runI_len (code : List In) (ch : List Int) (day : Int) (amt : Rt) : ∀ (g : Nat) (s : Mst), (runI code ch day amt g s).2.uses.length ≤ s.uses.length + g ∧ (runI code ch day amt g s).2.works.length ≤ s.works.length + g
  | 0, s => ⟨by simp [runI], by simp [runI]⟩
  | g + 1, s => by
    rw [runI_succ]
    by_cases hf : s.fuel = 0
    · rw [if_pos hf]; exact ⟨by simp, by simp⟩
    rw [if_neg hf]
    cases hc : code[s.next]? with
    | none => exact ⟨by simp, by simp⟩
    | some x =>
      rcases stepI_len ch day amt x { s with fuel := s.fuel - 1, next := s.next + 1 } with ⟨t, hs, h1, h2⟩ | ⟨e, hs⟩
      · simp only [hs]
        have := runI_len code ch day amt g t
        simp only at h1 h2
        omega
      · simp only [hs]
        exact ⟨by omega, by omega⟩

theorem runE_len (l : List In) (c : List Int) (neg : Bool) (n d : ByteArray) (f : Int) : (runE l c neg n d f).2.uses.length ≤ l.length ∧ (runE l c neg n d f).2.works.length ≤ l.length := by
  by_cases h1 : progOk l
  rotate_left
  · rw [runE_code h1]; simp [begin0]
  by_cases h2 : RatS neg n d
  rotate_left
  · rw [runE_rat h1 c h2]; simp [begin0]
  by_cases h3 : neg = true ∨ c = [] ∨ f < 0
  · rw [runE_arg h1 h2 h3]; simp [begin0]
  · rw [runE_run h1 h2 h3]
    have := runI_len l c.dropLast (c.getLast?.getD 0) ⟨neg, bv n, bv d⟩ l.length (begin0 f.toNat)
    simpa [begin0] using this

end Go.Proofs.YtoolanjbmbcaiaaGreatDoor
