/-
  DERIVED. GIVEN WITH THE SEED: THE CARDS: each row of YtgbbhcbkldhjiaaGreatDoorRows.lean that lists a variable, with what it lists TIED to the program's text (the seventh form; the later family's looks); each row that meets fmt, with fmt's text TOLD by the authors' own Lean function (tested against real Go, not proved from fmt's source: count such statements apart). THE CARD IS WHAT COUNTS. Prove the row's statement (the work); the ties are given (YtgbbhcbkldhjiaaGreatDoorTie.lean); close each card by the builder's one call (the guide's Derived/Test/ToyasCard.lean, 'card_holds'). Laid BY PROGRAM, IN A SANDBOX (cutbox-door.mjs). By AI agents, Wed Nov 11 2026. No macro, syntax, notation, axiom, sorry.
-/
import Derived.Test.YtgbbhcbkldhjiaaGreatDoorRows
import GoSem.ClaimSeven
namespace Go.Proofs.YtgbbhcbkldhjiaaGreatDoor
namespace Rows

/-- THE TIED CARD OF 'backflushlaw17.MachineRecipe'. -/
def machineRecipeCard : Claim7 := { stood := { row := machineRecipeRow, standIns := [], harness := (true, "431ff4bdf3debef640bc2c291f206eff99357815c1c126fe1b8b4b653809680c"), looks := true }, kinds := [], alts := [], laidByText := true, laidKinds := [.data], laidTests := true, laidLooks := .later }
def MachineRecipeCardSaid : Prop := Claim7.holds Tryz.pinned (.plain (OpenSpec.ofChange machineRecipeSpec)) machineRecipeCard

/-- THE SECOND FORM's CARD OF 'backflushlaw17.MachineRecipe'. -/
def machineRecipeUptoCard : Claim7 := { stood := { row := machineRecipeUptoRow, standIns := [], harness := (true, "431ff4bdf3debef640bc2c291f206eff99357815c1c126fe1b8b4b653809680c"), looks := true }, kinds := [], alts := [], laidByText := true, laidKinds := [.data], laidTests := true, laidLooks := .later }
def MachineRecipeUptoCardSaid : Prop := Claim7.holds Tryz.pinned (.plain (OpenSpec.upto machineRecipeSpec)) machineRecipeUptoCard
end Rows
end Go.Proofs.YtgbbhcbkldhjiaaGreatDoor
