/- The closed facts of the row of MachineSums. -/
import Derived.Test.YtiohceaddojedaaGreatDoorRows
import Derived.JoinedOf
import Derived.KernelRfl
namespace Go.Proofs.YtiohceaddojedaaGreatDoor
open Go

theorem and_mkSums {a b : Bool} (ha : a = true) (hb : b = true) : (a && b) = true := by rw [ha, hb]; rfl
set_option maxRecDepth 100000 in
set_option maxHeartbeats 80000000 in
theorem closedSums : joinedFacts Tryz.prog 4 Tryz.f4 Rows.machineSumsSpec Rows.machineSumsRow = true := by
  unfold joinedFacts
  repeat' with_reducible refine and_mkSums ?_ ?_
  all_goals as_aux_lemma => kernel_rfl
end Go.Proofs.YtiohceaddojedaaGreatDoor
