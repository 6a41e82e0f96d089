/- The closed facts of the row of MachineFuel. -/
import Derived.Test.YtiohceaddojedaaGreatDoorRows
import Derived.JoinedOf
import Derived.KernelRfl
namespace Go.Proofs.YtiohceaddojedaaGreatDoor
open Go

theorem and_mkFuel {a b : Bool} (ha : a = true) (hb : b = true) : (a && b) = true := by rw [ha, hb]; rfl
set_option maxRecDepth 100000 in
set_option maxHeartbeats 80000000 in
theorem closedFuel : joinedFacts Tryz.prog 3 Tryz.f3 Rows.machineFuelSpec Rows.machineFuelRow = true := by
  unfold joinedFacts
  repeat' with_reducible refine and_mkFuel ?_ ?_
  all_goals as_aux_lemma => kernel_rfl
end Go.Proofs.YtiohceaddojedaaGreatDoor
