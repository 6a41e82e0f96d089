/- MachineFuel returns true. -/
import Derived.Test.YtiohceaddojedaaGreatDoorFa
namespace Go.Proofs.YtiohceaddojedaaGreatDoor
open Go.RowKit Bf

theorem stepI_len (ch : List Int) (day : Int) (amt : Rt) (x : In) (s : Mst) : (∃ t, stepI ch day amt x s = .go t ∧ t.uses.length ≤ s.uses.length + 1 ∧ t.works.length ≤ s.works.length + 1) ∨ (∃ e, stepI ch day amt x s = .stop e s) := by
  unfold stepI
  by_cases h1 : x.op = 1
  · rw [if_pos h1]; exact .inl ⟨_, rfl, by simp, by simp⟩
  rw [if_neg h1]
  by_cases h2 : x.op = 2
  · rw [if_pos h2]; exact .inl ⟨_, rfl, by simp, by simp⟩
  rw [if_neg h2]
  by_cases h3 : x.op = 3
  · rw [if_pos h3]
    cases divR amt x.rt with
    | none => exact .inr ⟨_, rfl⟩
    | some q => exact .inl ⟨_, rfl, by simp, by simp⟩
  rw [if_neg h3]
  by_cases h4 : x.op = 4
  · rw [if_pos h4]
    cases mulR x.rt s.bat with
    | none => exact .inr ⟨_, rfl⟩
    | some q => exact .inl ⟨_, rfl, by simp, by simp⟩
  rw [if_neg h4]
  by_cases h5 : x.op = 5
  · rw [if_pos h5]
    cases mulR x.rt s.bat with
    | none => exact .inr ⟨_, rfl⟩
    | some q => exact .inl ⟨_, rfl, by simp, by simp⟩
  rw [if_neg h5]
  by_cases h6 : x.op = 6
  · rw [if_pos h6]
    cases ceilR s.bat with
    | none => exact .inr ⟨_, rfl⟩
    | some k =>
      by_cases hk : 1099511627776 < k
      · simp only [hk, if_true]; exact .inr ⟨_, rfl⟩
      · simp only [hk, if_false]; exact .inl ⟨_, rfl, by simp, by simp⟩
  rw [if_neg h6]
  by_cases h7 : x.op = 7
  · rw [if_pos h7]; exact .inr ⟨_, rfl⟩
  · rw [if_neg h7]; exact .inr ⟨_, rfl⟩

theorem runI_len (code : List In) (ch : List Int) (day : Int) (amt : Rt) : ∀ (g : Nat) (s : Mst), (runI code ch day amt g s).2.uses.length ≤ s.uses.length + g ∧ (runI code ch day amt g s).2.works.length ≤ s.works.length + g
  | 0, s => ⟨by simp [runI], by simp [runI]⟩
  | g + 1, s => by
    rw [runI_succ]
    by_cases hf : s.fuel = 0
    · rw [if_pos hf]; exact ⟨by simp, by simp⟩
    rw [if_neg hf]
    cases hc : code[s.next]? with
    | none => exact ⟨by simp, by simp⟩
    | some x =>
      rcases stepI_len ch day amt x { s with fuel := s.fuel - 1, next := s.next + 1 } with ⟨t, hs, h1, h2⟩ | ⟨e, hs⟩
      · simp only [hs]
        have := runI_len code ch day amt g t
        simp only at h1 h2
        omega
      · simp only [hs]
        exact ⟨by omega, by omega⟩

theorem runE_len (l : List In) (c : List Int) (neg : Bool) (n d : ByteArray) (f : Int) : (runE l c neg n d f).2.uses.length ≤ l.length ∧ (runE l c neg n d f).2.works.length ≤ l.length := by
  by_cases h1 : progOk l
  rotate_left
  · rw [runE_code h1]; simp [begin0]
  by_cases h2 : RatS neg n d
  rotate_left
  · rw [runE_rat h1 c h2]; simp [begin0]
  by_cases h3 : neg = true ∨ c = [] ∨ f < 0
  · rw [runE_arg h1 h2 h3]; simp [begin0]
  · rw [runE_run h1 h2 h3]
    have := runI_len l c.dropLast (c.getLast?.getD 0) ⟨neg, bv n, bv d⟩ l.length (begin0 f.toNat)
    simpa [begin0] using this

/-- MachineFuel returns true. -/
theorem MachineFuel_any (v cv : Value) (l : List In) (c : List Int) (neg : Bool) (n d : ByteArray) (m : Nat) (w : World) (hv : CodeV w v l) (hc : IntsV w cv c) (hl : l.length ≤ 9223372036854775807) (hcl : c.length ≤ 9223372036854775807) (hm : m ≤ 255) (hT : Tab w) :
    Calls Tryz.prog 3 #[v, cv, .agg #[.bool neg, .string n, .string d], .int .u8 (m : Int)] w (Ret w (.bool true)) := by
  obtain ⟨A, cap, e1, _⟩ := id hv
  obtain ⟨A', cap', e2, _⟩ := id hc
  subst e1 e2
  cases hfew : fewL l with
  | false => exact fuel_few A A' cap cap' l c neg n d m w hv hc hl hcl hm hT hfew
  | true =>
    have h60 : l.length ≤ 60 := by
      unfold fewL at hfew
      simp at hfew
      exact hfew.2
    cases hr : (decide (n.size ≤ 40) && decide (d.size ≤ 40)) with
    | false => exact fuel_ratio A A' cap cap' l c neg n d m w hv hc hl hcl hm hT hfew hr
    | true =>
      by_cases h12 : 12 < c.length
      · exact fuel_long A A' cap cap' l c neg n d m w hv hc hl hcl hm hT hfew hr h12
      obtain ⟨p1, p2, p3⟩ := fuel_plain l c neg n d m
      obtain ⟨u1, u2⟩ := runE_len l c neg n d (l.length : Int)
      by_cases h0 : (runE l c neg n d (l.length : Int)).1 = 0
      · obtain ⟨a1, a2, a3, a4, a5⟩ := p3 h0
        refine fuel_good A A' cap cap' l c neg n d m w hv hc hl hcl hm hT hfew hr (by omega) h60 (runE l c neg n d (l.length : Int)).2 (runE l c neg n d ((l.length : Int) - ((runE l c neg n d (l.length : Int)).2.fuel : Int))).2 (Prod.ext h0 rfl) (Prod.ext (p2.trans h0) a1) a2 (Prod.ext a3 rfl) a4 a5 (by omega) (by omega)
      · exact fuel_err A A' cap cap' l c neg n d m w hv hc hl hcl hm hT hfew hr (by omega) h60 _ p1 h0 rfl p2
end Go.Proofs.YtiohceaddojedaaGreatDoor
