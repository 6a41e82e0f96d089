/- The card's closed fact 'goes' of MachineRunSpec. -/
import Derived.Test.YtoolanjbmbcaiaaGreatDoorRows
import Derived.SevenTiedAt
import Derived.KernelRfl
namespace Go.Proofs.YtoolanjbmbcaiaaGreatDoor
open Go

theorem goesRun : false = Rows.machineRunSpecRow.goesBy Tryz.prog := by kernel_rfl
end Go.Proofs.YtoolanjbmbcaiaaGreatDoor
