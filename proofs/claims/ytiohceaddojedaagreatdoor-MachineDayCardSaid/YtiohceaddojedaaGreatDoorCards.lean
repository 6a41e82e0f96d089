/-
  DERIVED. GIVEN WITH THE SEED: THE CARDS: each row of YtiohceaddojedaaGreatDoorRows.lean that lists a variable, with what it lists TIED to the program's text (the seventh form; the later family's looks); each row that meets fmt, with fmt's text TOLD by the authors' own Lean function (tested against real Go, not proved from fmt's source: count such statements apart). THE CARD IS WHAT COUNTS. Prove the row's statement (the work); the ties are given (YtiohceaddojedaaGreatDoorTie.lean); close each card by the builder's one call (the guide's Derived/Test/ToyasCard.lean, 'card_holds'). Laid BY PROGRAM, IN A SANDBOX (cutbox-door.mjs). By AI agents, Wed Nov 11 2026. No macro, syntax, notation, axiom, sorry.
-/
import Derived.Test.YtiohceaddojedaaGreatDoorRows
import GoSem.ClaimSeven
namespace Go.Proofs.YtiohceaddojedaaGreatDoor
namespace Rows

/-- THE TIED CARD OF 'backflushlaw17.MachineFuel'. -/
def machineFuelCard : Claim7 := { stood := { row := machineFuelRow, standIns := [], harness := (true, "53409d2aa26a71caea0f5ae3e11fdc0373ea804d568ce08d6cfc6d1d9aef48a3"), looks := true }, kinds := [], alts := [], laidByText := true, laidKinds := [.data], laidTests := true, laidLooks := .later }
def MachineFuelCardSaid : Prop := Claim7.holds Tryz.pinned (.plain (OpenSpec.ofChange machineFuelSpec)) machineFuelCard

/-- THE TIED CARD OF 'backflushlaw17.MachineSums'. -/
def machineSumsCard : Claim7 := { stood := { row := machineSumsRow, standIns := [], harness := (true, "53409d2aa26a71caea0f5ae3e11fdc0373ea804d568ce08d6cfc6d1d9aef48a3"), looks := true }, kinds := [], alts := [], laidByText := true, laidKinds := [.data], laidTests := true, laidLooks := .later }
def MachineSumsCardSaid : Prop := Claim7.holds Tryz.pinned (.plain (OpenSpec.ofChange machineSumsSpec)) machineSumsCard

/-- THE TIED CARD OF 'backflushlaw17.MachineDay'. -/
def machineDayCard : Claim7 := { stood := { row := machineDayRow, standIns := [], harness := (true, "53409d2aa26a71caea0f5ae3e11fdc0373ea804d568ce08d6cfc6d1d9aef48a3"), looks := true }, kinds := [], alts := [], laidByText := true, laidKinds := [.data], laidTests := true, laidLooks := .later }
def MachineDayCardSaid : Prop := Claim7.holds Tryz.pinned (.plain (OpenSpec.ofChange machineDaySpec)) machineDayCard

/-- THE SECOND FORM's CARD OF 'backflushlaw17.MachineFuel'. -/
def machineFuelUptoCard : Claim7 := { stood := { row := machineFuelUptoRow, standIns := [], harness := (true, "53409d2aa26a71caea0f5ae3e11fdc0373ea804d568ce08d6cfc6d1d9aef48a3"), looks := true }, kinds := [], alts := [], laidByText := true, laidKinds := [.data], laidTests := true, laidLooks := .later }
def MachineFuelUptoCardSaid : Prop := Claim7.holds Tryz.pinned (.plain (OpenSpec.upto machineFuelSpec)) machineFuelUptoCard

/-- THE SECOND FORM's CARD OF 'backflushlaw17.MachineSums'. -/
def machineSumsUptoCard : Claim7 := { stood := { row := machineSumsUptoRow, standIns := [], harness := (true, "53409d2aa26a71caea0f5ae3e11fdc0373ea804d568ce08d6cfc6d1d9aef48a3"), looks := true }, kinds := [], alts := [], laidByText := true, laidKinds := [.data], laidTests := true, laidLooks := .later }
def MachineSumsUptoCardSaid : Prop := Claim7.holds Tryz.pinned (.plain (OpenSpec.upto machineSumsSpec)) machineSumsUptoCard

/-- THE SECOND FORM's CARD OF 'backflushlaw17.MachineDay'. -/
def machineDayUptoCard : Claim7 := { stood := { row := machineDayUptoRow, standIns := [], harness := (true, "53409d2aa26a71caea0f5ae3e11fdc0373ea804d568ce08d6cfc6d1d9aef48a3"), looks := true }, kinds := [], alts := [], laidByText := true, laidKinds := [.data], laidTests := true, laidLooks := .later }
def MachineDayUptoCardSaid : Prop := Claim7.holds Tryz.pinned (.plain (OpenSpec.upto machineDaySpec)) machineDayUptoCard
end Rows
end Go.Proofs.YtiohceaddojedaaGreatDoor
