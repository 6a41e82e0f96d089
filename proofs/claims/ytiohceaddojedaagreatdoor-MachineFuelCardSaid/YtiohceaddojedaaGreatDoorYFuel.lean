/- The card's closed fact 'goes' of MachineFuel. -/
import Derived.Test.YtiohceaddojedaaGreatDoorRows
import Derived.SevenTiedAt
import Derived.KernelRfl
namespace Go.Proofs.YtiohceaddojedaaGreatDoor
open Go

theorem goesFuel : false = Rows.machineFuelRow.goesBy Tryz.prog := by kernel_rfl
end Go.Proofs.YtiohceaddojedaaGreatDoor
