/- The closed facts of the row of MachineRunSpec. -/
import Derived.Test.YtoolanjbmbcaiaaGreatDoorRows
import Derived.JoinedOf
import Derived.KernelRfl
namespace Go.Proofs.YtoolanjbmbcaiaaGreatDoor
open Go

theorem and_mkRun {a b : Bool} (ha : a = true) (hb : b = true) : (a && b) = true := by rw [ha, hb]; rfl
set_option maxRecDepth 100000 in
set_option maxHeartbeats 80000000 in
theorem closedRun : joinedFacts Tryz.prog 3 Tryz.f3 Rows.machineRunSpecSpec Rows.machineRunSpecRow = true := by
  unfold joinedFacts
  repeat' with_reducible refine and_mkRun ?_ ?_
  all_goals as_aux_lemma => kernel_rfl
end Go.Proofs.YtoolanjbmbcaiaaGreatDoor
