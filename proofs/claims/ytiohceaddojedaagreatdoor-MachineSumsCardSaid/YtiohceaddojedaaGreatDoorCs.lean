/- For every program, list of choices and two amounts, backflushlaw17.MachineSums returns true, and the arguments read as before: the tied card MachineSumsCardSaid. No condition beyond the card's own (the listed table of math/bits, tied to the program's text). -/
import Derived.Test.YtiohceaddojedaaGreatDoorCb
import Derived.Test.YtiohceaddojedaaGreatDoorTb
import Derived.Test.YtiohceaddojedaaGreatDoorTie
import Derived.Test.YtiohceaddojedaaGreatDoorXSums
import Derived.Test.YtiohceaddojedaaGreatDoorYSums
import Derived.Test.YtiohceaddojedaaGreatDoorCards
import Derived.SevenTiedAt
namespace Go.Proofs.YtiohceaddojedaaGreatDoor
open Go.ChangeShapes Go.WideShapes Go.RowKit Bf

set_option maxRecDepth 100000 in
theorem sums_lifted (os : Os) (started : os.Started) (H : Type) (enc : TypeId × Value → H) :
    ReturnsInHanded {} Tryz.checked os 4 .any (fun w args => (Rows.machineSumsSpec.pre enc Tryz.prog Tryz.f4 [] false w args ∧ laidMetH Tryz.prog [("math/bits.deBruijn64tab", Rows.laid_math_bits_deBruijn64tab)] w) ∧ sizedMet enc Tryz.prog Tryz.f4 (OpenSpec.ofChange Rows.machineSumsSpec) false w args)
      (Rows.machineSumsSpec.post enc Tryz.prog Tryz.f4 false true false false) := by
  refine returnsInHanded_of_change_and (C := Tryz.checked) (X := fun w _ => laidMetH Tryz.prog [("math/bits.deBruijn64tab", Rows.laid_math_bits_deBruijn64tab)] w) (fun _ _ _ hh h => h.of_heap hh) own0 started (by kernel_rfl) Tryz.func4
    (ChangeSpec.witness_shaped (enc := enc) (C := Tryz.checked) (os := os) (X := fun w _ => laidMetH Tryz.prog [("math/bits.deBruijn64tab", Rows.laid_math_bits_deBruijn64tab)] w) false (World.doorLaid Tryz.prog 400 os) #[.slice Option.none 0 0, .slice Option.none 0 0, .agg #[.bool false, .string ⟨#[]⟩, .string ⟨#[]⟩], .agg #[.bool false, .string ⟨#[]⟩, .string ⟨#[]⟩]] 8 rfl (World.shaped_of_RefB (by kernel_rfl) (by kernel_rfl)) (by kernel_rfl) (by kernel_rfl) (by kernel_rfl) (door_met os _)) ?_
  intro W base args ds gs before hval0 hW _ _ hL _
  have hval : ∀ (j : Nat) t v, Tryz.f4.params[j]? = some t → args[j]? = some v → Value.okWide Tryz.prog W .any base t v := hval0
  have hW' := hW
  obtain ⟨p, q, hA0, hV, rfl, hfz, hnd⟩ := hW
  have hA : DataW.TrodAll enc Tryz.prog W 0 (fun _ => true) true Tryz.f4.params.toList args.toList ds p := hA0
  rw [Tryz.params4] at hA hval
  obtain ⟨v0, v1, v2, v3, d0, d1, d2, d3, p0, p1, p2, p3, rfl, rfl, rfl, h0, h1, h2, h3⟩ := trodAll_four hA
  obtain ⟨rfl, rfl⟩ := trodVars_none hV
  obtain ⟨l, hl, hll⟩ := open_code (hval 0 _ v0 rfl rfl) h0
  obtain ⟨c, hc, hcl, _⟩ := open_choices (hval 1 _ v1 rfl rfl) h1
  obtain ⟨neg, n, d, rfl⟩ := open_amount (hval 2 _ v2 rfl rfl) h2
  obtain ⟨neg', n', d', rfl⟩ := open_amount (hval 3 _ v3 rfl rfl) h3
  refine (MachineSums_any v0 v1 l c neg neg' n d n' d' W hl hc hll hcl (tab_of_laid hL)).mono fun e W' ⟨he, hb⟩ => ?_
  exact ⟨_, he, post_true laidOut0 Tryz.underlying4 rfl (by kernel_rfl) rfl rfl hW' hb⟩

theorem machineSums_row : Rows.MachineSumsSaid :=
  OpenClaim.holds_of_wide 4 Tryz.f4 rfl rfl rfl rfl rfl rfl rfl ⟨rfl, rfl, rfl, rfl, rfl⟩ rfl rfl rfl rfl rfl (by as_aux_lemma => kernel_rfl) Tryz.func4 closedSums
    (of_decide_eq_true (by kernel_rfl)) (by unfold Func.isWrapper; first | (rw [if_pos (by decide +kernel)]; kernel_rfl) | (rw [if_neg (by decide +kernel)]; exact ⟨rfl, rfl⟩))
    (fun os started H enc _ => sums_lifted os started H enc)

theorem machineSums_card : Rows.MachineSumsCardSaid :=
  Claim7.holds_tied_plain_at .later [] [.data] true (true, "53409d2aa26a71caea0f5ae3e11fdc0373ea804d568ce08d6cfc6d1d9aef48a3") true
    machineSums_row (fun _ h => by cases h) (by as_aux_lemma => kernel_rfl) (fun _ h => by cases h) machineSums_row_tie rfl ⟨rfl, rfl⟩ (by as_aux_lemma => kernel_rfl) rfl
    (fun f fn hf hfn => by
      obtain rfl : f = 4 := Option.some.inj ((show Tryz.prog.funcNamed "backflush/backflushlaw17.MachineSums" = some 4 by kernel_rfl).symm.trans hf) |>.symm
      obtain rfl : fn = Tryz.f4 := (Option.some.inj (Tryz.func4.symm.trans hfn)).symm
      exact ⟨by as_aux_lemma => kernel_rfl, fun j t ht => by
        rw [Tryz.params4] at ht
        have hm : t ∈ [22, 23, 25, 25] := by simpa using Array.mem_of_getElem? ht
        have hall : ([22, 23, 25, 25].all fun u => !Tryz.prog.wantsStandIn u) = true := by kernel_rfl
        exact (show Tryz.prog.wantsStandIn t = false by simpa using List.all_eq_true.1 hall t hm)⟩)
    goesSums
#print axioms machineSums_card
end Go.Proofs.YtiohceaddojedaaGreatDoor
