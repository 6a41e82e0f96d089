/-
  DERIVED. GIVEN WITH THE SEED: THE CARDS: each row of YtoolanjbmbcaiaaGreatDoorRows.lean that lists a variable, with what it lists TIED to the program's text (the seventh form; the later family's looks); each row that meets fmt, with fmt's text TOLD by the authors' own Lean function (tested against real Go, not proved from fmt's source: count such statements apart). THE CARD IS WHAT COUNTS. Prove the row's statement (the work); the ties are given (YtoolanjbmbcaiaaGreatDoorTie.lean); close each card by the builder's one call (the guide's Derived/Test/ToyasCard.lean, 'card_holds'). Laid BY PROGRAM, IN A SANDBOX (cutbox-door.mjs). By AI agents, Wed Nov 11 2026. No macro, syntax, notation, axiom, sorry.
-/
import Derived.Test.YtoolanjbmbcaiaaGreatDoorRows
import GoSem.ClaimSeven
namespace Go.Proofs.YtoolanjbmbcaiaaGreatDoor
namespace Rows

/-- THE TIED CARD OF 'backflushlaw17.MachineRunSpec'. -/
def machineRunSpecCard : Claim7 := { stood := { row := machineRunSpecRow, standIns := [], harness := (true, "b243157ea54997ce4a0c99791246fee90e825a046fff70cf1dbb96d3b06c5712"), looks := true }, kinds := [], alts := [], laidByText := true, laidKinds := [.data], laidTests := true, laidLooks := .later }
def MachineRunSpecCardSaid : Prop := Claim7.holds Tryz.pinned (.plain (OpenSpec.ofChange machineRunSpecSpec)) machineRunSpecCard

/-- THE SECOND FORM's CARD OF 'backflushlaw17.MachineRunSpec'. -/
def machineRunSpecUptoCard : Claim7 := { stood := { row := machineRunSpecUptoRow, standIns := [], harness := (true, "b243157ea54997ce4a0c99791246fee90e825a046fff70cf1dbb96d3b06c5712"), looks := true }, kinds := [], alts := [], laidByText := true, laidKinds := [.data], laidTests := true, laidLooks := .later }
def MachineRunSpecUptoCardSaid : Prop := Claim7.holds Tryz.pinned (.plain (OpenSpec.upto machineRunSpecSpec)) machineRunSpecUptoCard
end Rows
end Go.Proofs.YtoolanjbmbcaiaaGreatDoor
