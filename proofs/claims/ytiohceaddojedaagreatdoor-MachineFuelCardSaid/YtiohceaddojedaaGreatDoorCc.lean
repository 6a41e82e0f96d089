/- For every program, list of choices, amount and number, backflushlaw17.MachineFuel returns true, and the arguments read as before: the tied card MachineFuelCardSaid. No condition beyond the card's own (the listed table of math/bits, tied to the program's text). -/
import Derived.Test.YtiohceaddojedaaGreatDoorCb
import Derived.Test.YtiohceaddojedaaGreatDoorTie
import Derived.Test.YtiohceaddojedaaGreatDoorXFuel
import Derived.Test.YtiohceaddojedaaGreatDoorYFuel
import Derived.Test.YtiohceaddojedaaGreatDoorCards
import Derived.SevenTiedAt
namespace Go.Proofs.YtiohceaddojedaaGreatDoor
open Go.ChangeShapes Go.WideShapes Go.RowKit Bf

set_option maxRecDepth 100000 in
theorem fuel_lifted (os : Os) (started : os.Started) (H : Type) (enc : TypeId × Value → H) :
    ReturnsInHanded {} Tryz.checked os 3 .any (fun w args => (Rows.machineFuelSpec.pre enc Tryz.prog Tryz.f3 [] false w args ∧ laidMetH Tryz.prog [("math/bits.deBruijn64tab", Rows.laid_math_bits_deBruijn64tab)] w) ∧ sizedMet enc Tryz.prog Tryz.f3 (OpenSpec.ofChange Rows.machineFuelSpec) false w args)
      (Rows.machineFuelSpec.post enc Tryz.prog Tryz.f3 false true false false) := by
  refine returnsInHanded_of_change_and (C := Tryz.checked) (X := fun w _ => laidMetH Tryz.prog [("math/bits.deBruijn64tab", Rows.laid_math_bits_deBruijn64tab)] w) (fun _ _ _ hh h => h.of_heap hh) own0 started (by kernel_rfl) Tryz.func3
    (ChangeSpec.witness_shaped (enc := enc) (C := Tryz.checked) (os := os) (X := fun w _ => laidMetH Tryz.prog [("math/bits.deBruijn64tab", Rows.laid_math_bits_deBruijn64tab)] w) false (World.doorLaid Tryz.prog 400 os) #[.slice Option.none 0 0, .slice Option.none 0 0, .agg #[.bool false, .string ⟨#[]⟩, .string ⟨#[]⟩], .int .u8 0] 8 rfl (World.shaped_of_RefB (by kernel_rfl) (by kernel_rfl)) (by kernel_rfl) (by kernel_rfl) (by kernel_rfl) (door_met os _)) ?_
  intro W base args ds gs before hval0 hW _ _ hL _
  have hval : ∀ (j : Nat) t v, Tryz.f3.params[j]? = some t → args[j]? = some v → Value.okWide Tryz.prog W .any base t v := hval0
  have hW' := hW
  obtain ⟨p, q, hA0, hV, rfl, hfz, hnd⟩ := hW
  have hA : DataW.TrodAll enc Tryz.prog W 0 (fun _ => true) true Tryz.f3.params.toList args.toList ds p := hA0
  rw [Tryz.params3] at hA hval
  obtain ⟨v0, v1, v2, v3, d0, d1, d2, d3, p0, p1, p2, p3, rfl, rfl, rfl, h0, h1, h2, h3⟩ := trodAll_four hA
  obtain ⟨rfl, rfl⟩ := trodVars_none hV
  obtain ⟨l, hl, hll⟩ := open_code (hval 0 _ v0 rfl rfl) h0
  obtain ⟨c, hc, hcl, _⟩ := open_choices (hval 1 _ v1 rfl rfl) h1
  obtain ⟨neg, n, d, rfl⟩ := open_amount (hval 2 _ v2 rfl rfl) h2
  obtain ⟨m, rfl, _, _, hm⟩ := open_int Tryz.underlying5 (hval 3 _ v3 rfl rfl) h3
  have hm' := bounds_u8 hm
  obtain ⟨k, rfl⟩ : ∃ k : Nat, m = (k : Int) := ⟨m.toNat, by omega⟩
  refine (MachineFuel_any v0 v1 l c neg n d k W hl hc hll hcl (by omega) (tab_of_laid hL)).mono fun e W' ⟨he, hb⟩ => ?_
  exact ⟨_, he, post_true laidOut0 Tryz.underlying4 rfl (by kernel_rfl) rfl rfl hW' hb⟩

theorem machineFuel_row : Rows.MachineFuelSaid :=
  OpenClaim.holds_of_wide 3 Tryz.f3 rfl rfl rfl rfl rfl rfl rfl ⟨rfl, rfl, rfl, rfl, rfl⟩ rfl rfl rfl rfl rfl (by as_aux_lemma => kernel_rfl) Tryz.func3 closedFuel
    (of_decide_eq_true (by kernel_rfl)) (by unfold Func.isWrapper; first | (rw [if_pos (by decide +kernel)]; kernel_rfl) | (rw [if_neg (by decide +kernel)]; exact ⟨rfl, rfl⟩))
    (fun os started H enc _ => fuel_lifted os started H enc)

theorem machineFuel_card : Rows.MachineFuelCardSaid :=
  Claim7.holds_tied_plain_at .later [] [.data] true (true, "53409d2aa26a71caea0f5ae3e11fdc0373ea804d568ce08d6cfc6d1d9aef48a3") true
    machineFuel_row (fun _ h => by cases h) (by as_aux_lemma => kernel_rfl) (fun _ h => by cases h) machineFuel_row_tie rfl ⟨rfl, rfl⟩ (by as_aux_lemma => kernel_rfl) rfl
    (fun f fn hf hfn => by
      obtain rfl : f = 3 := Option.some.inj ((show Tryz.prog.funcNamed "backflush/backflushlaw17.MachineFuel" = some 3 by kernel_rfl).symm.trans hf) |>.symm
      obtain rfl : fn = Tryz.f3 := (Option.some.inj (Tryz.func3.symm.trans hfn)).symm
      exact ⟨by as_aux_lemma => kernel_rfl, fun j t ht => by
        rw [Tryz.params3] at ht
        have hm : t ∈ [22, 23, 25, 5] := by simpa using Array.mem_of_getElem? ht
        have hall : ([22, 23, 25, 5].all fun u => !Tryz.prog.wantsStandIn u) = true := by kernel_rfl
        exact (show Tryz.prog.wantsStandIn t = false by simpa using List.all_eq_true.1 hall t hm)⟩)
    goesFuel
#print axioms machineFuel_card
end Go.Proofs.YtiohceaddojedaaGreatDoor
