/- The card's closed fact 'goes' of MachineDay. -/
import Derived.Test.YtiohceaddojedaaGreatDoorRows
import Derived.SevenTiedAt
import Derived.KernelRfl
namespace Go.Proofs.YtiohceaddojedaaGreatDoor
open Go

theorem goesDay : false = Rows.machineDayRow.goesBy Tryz.prog := by kernel_rfl
end Go.Proofs.YtiohceaddojedaaGreatDoor
