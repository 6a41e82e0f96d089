/- The card's closed fact 'goes' of MachineSums. -/
import Derived.Test.YtiohceaddojedaaGreatDoorRows
import Derived.SevenTiedAt
import Derived.KernelRfl
namespace Go.Proofs.YtiohceaddojedaaGreatDoor
open Go

theorem goesSums : false = Rows.machineSumsRow.goesBy Tryz.prog := by kernel_rfl
end Go.Proofs.YtiohceaddojedaaGreatDoor
