/- The closed facts of the row of MachineDay. -/
import Derived.Test.YtiohceaddojedaaGreatDoorRows
import Derived.JoinedOf
import Derived.KernelRfl
namespace Go.Proofs.YtiohceaddojedaaGreatDoor
open Go

theorem and_mkDay {a b : Bool} (ha : a = true) (hb : b = true) : (a && b) = true := by rw [ha, hb]; rfl
set_option maxRecDepth 100000 in
set_option maxHeartbeats 80000000 in
theorem closedDay : joinedFacts Tryz.prog 5 Tryz.f5 Rows.machineDaySpec Rows.machineDayRow = true := by
  unfold joinedFacts
  repeat' with_reducible refine and_mkDay ?_ ?_
  all_goals as_aux_lemma => kernel_rfl
end Go.Proofs.YtiohceaddojedaaGreatDoor
