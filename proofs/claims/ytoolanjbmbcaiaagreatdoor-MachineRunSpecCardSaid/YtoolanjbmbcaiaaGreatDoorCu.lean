/- For every program, list of choices, amount and fuel, backflushlaw17.MachineRunSpec returns true, and the arguments read as before: the tied card MachineRunSpecCardSaid. No condition beyond the card's own (the listed table of math/bits, tied to the program's text). -/
import Derived.Test.YtoolanjbmbcaiaaGreatDoorCb
import Derived.Test.YtoolanjbmbcaiaaGreatDoorUa
import Derived.Test.YtoolanjbmbcaiaaGreatDoorTie
import Derived.Test.YtoolanjbmbcaiaaGreatDoorXRun
import Derived.Test.YtoolanjbmbcaiaaGreatDoorYRun
import Derived.Test.YtoolanjbmbcaiaaGreatDoorCards
import Derived.SevenTiedAt
namespace Go.Proofs.YtoolanjbmbcaiaaGreatDoor
open Go.ChangeShapes Go.WideShapes Go.RowKit Bf

set_option maxRecDepth 100000 in
theorem spec_lifted (os : Os) (started : os.Started) (H : Type) (enc : TypeId × Value → H) :
    ReturnsInHanded {} Tryz.checked os 3 .any (fun w args => (Rows.machineRunSpecSpec.pre enc Tryz.prog Tryz.f3 [] false w args ∧ laidMetH Tryz.prog [("math/bits.deBruijn64tab", Rows.laid_math_bits_deBruijn64tab)] w) ∧ sizedMet enc Tryz.prog Tryz.f3 (OpenSpec.ofChange Rows.machineRunSpecSpec) false w args)
      (Rows.machineRunSpecSpec.post enc Tryz.prog Tryz.f3 false true false false) := by
  refine returnsInHanded_of_change_and (C := Tryz.checked) (X := fun w _ => laidMetH Tryz.prog [("math/bits.deBruijn64tab", Rows.laid_math_bits_deBruijn64tab)] w) (fun _ _ _ hh h => h.of_heap hh) own0 started (by kernel_rfl) Tryz.func3
    (ChangeSpec.witness_shaped (enc := enc) (C := Tryz.checked) (os := os) (X := fun w _ => laidMetH Tryz.prog [("math/bits.deBruijn64tab", Rows.laid_math_bits_deBruijn64tab)] w) false (World.doorLaid Tryz.prog 400 os) #[.slice Option.none 0 0, .slice Option.none 0 0, .agg #[.bool false, .string ⟨#[]⟩, .string ⟨#[]⟩], .int .i64 0] 8 rfl (World.shaped_of_RefB (by kernel_rfl) (by kernel_rfl)) (by kernel_rfl) (by kernel_rfl) (by kernel_rfl) (door_met os _)) ?_
  intro W base args ds gs before hval0 hW _ _ hL _
  have hval : ∀ (j : Nat) t v, Tryz.f3.params[j]? = some t → args[j]? = some v → Value.okWide Tryz.prog W .any base t v := hval0
  have hW' := hW
  obtain ⟨p, q, hA0, hV, rfl, hfz, hnd⟩ := hW
  have hA : DataW.TrodAll enc Tryz.prog W 0 (fun _ => true) true Tryz.f3.params.toList args.toList ds p := hA0
  rw [Tryz.params3] at hA hval
  obtain ⟨v0, v1, v2, v3, d0, d1, d2, d3, p0, p1, p2, p3, rfl, rfl, rfl, h0, h1, h2, h3⟩ := trodAll_four hA
  obtain ⟨rfl, rfl⟩ := trodVars_none hV
  obtain ⟨l, hl, hll⟩ := open_code (hval 0 _ v0 rfl rfl) h0
  obtain ⟨c, hc, hcl, _⟩ := open_choices (hval 1 _ v1 rfl rfl) h1
  obtain ⟨neg, n, d, rfl⟩ := open_amount (hval 2 _ v2 rfl rfl) h2
  obtain ⟨m, rfl, _, _, hm⟩ := open_int Tryz.underlying3 (hval 3 _ v3 rfl rfl) h3
  have hm' : m < 9223372036854775808 := by have := bounds_i64 hm; omega
  refine (MachineRunSpec_any v0 v1 l c neg n d m W hl hc hll hm' (tab_of_laid hL)).mono fun e W' ⟨he, hb⟩ => ?_
  exact ⟨_, he, post_true laidOut0 Tryz.underlying4 rfl (by kernel_rfl) rfl rfl hW' hb⟩

theorem machineRunSpec_row : Rows.MachineRunSpecSaid :=
  OpenClaim.holds_of_wide 3 Tryz.f3 rfl rfl rfl rfl rfl rfl rfl ⟨rfl, rfl, rfl, rfl, rfl⟩ rfl rfl rfl rfl rfl (by as_aux_lemma => kernel_rfl) Tryz.func3 closedRun
    (of_decide_eq_true (by kernel_rfl)) (by unfold Func.isWrapper; first | (rw [if_pos (by decide +kernel)]; kernel_rfl) | (rw [if_neg (by decide +kernel)]; exact ⟨rfl, rfl⟩))
    (fun os started H enc _ => spec_lifted os started H enc)

theorem machineRunSpec_card : Rows.MachineRunSpecCardSaid :=
  Claim7.holds_tied_plain_at .later [] [.data] true (true, "b243157ea54997ce4a0c99791246fee90e825a046fff70cf1dbb96d3b06c5712") true
    machineRunSpec_row (fun _ h => by cases h) (by as_aux_lemma => kernel_rfl) (fun _ h => by cases h) machineRunSpec_row_tie rfl ⟨rfl, rfl⟩ (by as_aux_lemma => kernel_rfl) rfl
    (fun f fn hf hfn => by
      obtain rfl : f = 3 := Option.some.inj ((show Tryz.prog.funcNamed "backflush/backflushlaw17.MachineRunSpec" = some 3 by kernel_rfl).symm.trans hf) |>.symm
      obtain rfl : fn = Tryz.f3 := (Option.some.inj (Tryz.func3.symm.trans hfn)).symm
      exact ⟨by as_aux_lemma => kernel_rfl, fun j t ht => by
        rw [Tryz.params3] at ht
        have hm : t ∈ [22, 23, 25, 3] := by simpa using Array.mem_of_getElem? ht
        have hall : ([22, 23, 25, 3].all fun u => !Tryz.prog.wantsStandIn u) = true := by kernel_rfl
        exact (show Tryz.prog.wantsStandIn t = false by simpa using List.all_eq_true.1 hall t hm)⟩)
    goesRun
#print axioms machineRunSpec_card
end Go.Proofs.YtoolanjbmbcaiaaGreatDoor
