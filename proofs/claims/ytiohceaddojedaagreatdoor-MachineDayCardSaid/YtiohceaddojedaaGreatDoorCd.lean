/- For every program, list of choices, days, further choice and amount, backflushlaw17.MachineDay returns true, and the arguments read as before: the tied card MachineDayCardSaid. No condition beyond the card's own (the listed table of math/bits, tied to the program's text). -/
import Derived.Test.YtiohceaddojedaaGreatDoorCb
import Derived.Test.YtiohceaddojedaaGreatDoorDb
import Derived.Test.YtiohceaddojedaaGreatDoorTie
import Derived.Test.YtiohceaddojedaaGreatDoorXDay
import Derived.Test.YtiohceaddojedaaGreatDoorYDay
import Derived.Test.YtiohceaddojedaaGreatDoorCards
import Derived.SevenTiedAt
namespace Go.Proofs.YtiohceaddojedaaGreatDoor
open Go.ChangeShapes Go.WideShapes Go.RowKit Bf

set_option maxRecDepth 100000 in
theorem day_lifted (os : Os) (started : os.Started) (H : Type) (enc : TypeId × Value → H) :
    ReturnsInHanded {} Tryz.checked os 5 .any (fun w args => (Rows.machineDaySpec.pre enc Tryz.prog Tryz.f5 [] false w args ∧ laidMetH Tryz.prog [("math/bits.deBruijn64tab", Rows.laid_math_bits_deBruijn64tab)] w) ∧ sizedMet enc Tryz.prog Tryz.f5 (OpenSpec.ofChange Rows.machineDaySpec) false w args)
      (Rows.machineDaySpec.post enc Tryz.prog Tryz.f5 false true false false) := by
  refine returnsInHanded_of_change_and (C := Tryz.checked) (X := fun w _ => laidMetH Tryz.prog [("math/bits.deBruijn64tab", Rows.laid_math_bits_deBruijn64tab)] w) (fun _ _ _ hh h => h.of_heap hh) own0 started (by kernel_rfl) Tryz.func5
    (ChangeSpec.witness_shaped (enc := enc) (C := Tryz.checked) (os := os) (X := fun w _ => laidMetH Tryz.prog [("math/bits.deBruijn64tab", Rows.laid_math_bits_deBruijn64tab)] w) false (World.doorLaid Tryz.prog 400 os) #[.slice Option.none 0 0, .slice Option.none 0 0, .int .i64 0, .int .i64 0, .int .i64 0, .agg #[.bool false, .string ⟨#[]⟩, .string ⟨#[]⟩]] 8 rfl (World.shaped_of_RefB (by kernel_rfl) (by kernel_rfl)) (by kernel_rfl) (by kernel_rfl) (by kernel_rfl) (door_met os _)) ?_
  intro W base args ds gs before hval0 hW _ _ hL _
  have hval : ∀ (j : Nat) t v, Tryz.f5.params[j]? = some t → args[j]? = some v → Value.okWide Tryz.prog W .any base t v := hval0
  have hW' := hW
  obtain ⟨p, q, hA0, hV, rfl, hfz, hnd⟩ := hW
  have hA : DataW.TrodAll enc Tryz.prog W 0 (fun _ => true) true Tryz.f5.params.toList args.toList ds p := hA0
  rw [Tryz.params5] at hA hval
  obtain ⟨v0, v1, v2, v3, v4, v5, d0, d1, d2, d3, d4, d5, p0, p1, p2, p3, p4, p5, rfl, rfl, rfl, h0, h1, h2, h3, h4, h5⟩ := trodAll_six hA
  obtain ⟨rfl, rfl⟩ := trodVars_none hV
  obtain ⟨l, hl, hll⟩ := open_code (hval 0 _ v0 rfl rfl) h0
  obtain ⟨c, hc, hcl, _⟩ := open_choices (hval 1 _ v1 rfl rfl) h1
  obtain ⟨day, rfl, _, _, _⟩ := open_int Tryz.underlying3 (hval 2 _ v2 rfl rfl) h2
  obtain ⟨other, rfl, _, _, _⟩ := open_int Tryz.underlying3 (hval 3 _ v3 rfl rfl) h3
  obtain ⟨further, rfl, _, _, _⟩ := open_int Tryz.underlying3 (hval 4 _ v4 rfl rfl) h4
  obtain ⟨neg, n, d, rfl⟩ := open_amount (hval 5 _ v5 rfl rfl) h5
  refine (MachineDay_any v0 v1 l c day other further neg n d W hl hc hll hcl (tab_of_laid hL)).mono fun e W' ⟨he, hb⟩ => ?_
  exact ⟨_, he, post_true laidOut0 Tryz.underlying4 rfl (by kernel_rfl) rfl rfl hW' hb⟩

theorem machineDay_row : Rows.MachineDaySaid :=
  OpenClaim.holds_of_wide 5 Tryz.f5 rfl rfl rfl rfl rfl rfl rfl ⟨rfl, rfl, rfl, rfl, rfl⟩ rfl rfl rfl rfl rfl (by as_aux_lemma => kernel_rfl) Tryz.func5 closedDay
    (of_decide_eq_true (by kernel_rfl)) (by unfold Func.isWrapper; first | (rw [if_pos (by decide +kernel)]; kernel_rfl) | (rw [if_neg (by decide +kernel)]; exact ⟨rfl, rfl⟩))
    (fun os started H enc _ => day_lifted os started H enc)

theorem machineDay_card : Rows.MachineDayCardSaid :=
  Claim7.holds_tied_plain_at .later [] [.data] true (true, "53409d2aa26a71caea0f5ae3e11fdc0373ea804d568ce08d6cfc6d1d9aef48a3") true
    machineDay_row (fun _ h => by cases h) (by as_aux_lemma => kernel_rfl) (fun _ h => by cases h) machineDay_row_tie rfl ⟨rfl, rfl⟩ (by as_aux_lemma => kernel_rfl) rfl
    (fun f fn hf hfn => by
      obtain rfl : f = 5 := Option.some.inj ((show Tryz.prog.funcNamed "backflush/backflushlaw17.MachineDay" = some 5 by kernel_rfl).symm.trans hf) |>.symm
      obtain rfl : fn = Tryz.f5 := (Option.some.inj (Tryz.func5.symm.trans hfn)).symm
      exact ⟨by as_aux_lemma => kernel_rfl, fun j t ht => by
        rw [Tryz.params5] at ht
        have hm : t ∈ [22, 23, 3, 3, 3, 25] := by simpa using Array.mem_of_getElem? ht
        have hall : ([22, 23, 3, 3, 3, 25].all fun u => !Tryz.prog.wantsStandIn u) = true := by kernel_rfl
        exact (show Tryz.prog.wantsStandIn t = false by simpa using List.all_eq_true.1 hall t hm)⟩)
    goesDay
#print axioms machineDay_card
end Go.Proofs.YtiohceaddojedaaGreatDoor
