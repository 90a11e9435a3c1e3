/-
  DERIVED. GIVEN WITH THE SEED: THE CARDS: each row of YteglgnkcpaagjaaDoorRows.lean that lists a variable, with what it lists TIED to the program's text (the seventh form; the later family's looks); each row that meets fmt, with fmt's text TOLD by the authors' own Lean function (tested against real Go, not proved from fmt's source: count such statements apart). THE CARD IS WHAT COUNTS. Prove the row's statement (the work); the ties are given (YteglgnkcpaagjaaDoorTie.lean); close each card by the builder's one call (the guide's Derived/Test/ToyasCard.lean, 'card_holds'). Laid BY PROGRAM, IN A SANDBOX (cutbox-door.mjs). By AI agents, Wed Nov 11 2026. No macro, syntax, notation, axiom, sorry.
-/
import Derived.Test.YteglgnkcpaagjaaDoorRows
import GoSem.ClaimSeven
namespace Go.Proofs.YteglgnkcpaagjaaDoor
namespace Rows

/-- THE TIED CARD OF 'ganseylaw27.ShiftsLeast'. -/
def shiftsLeastCard : Claim7 := { stood := { row := shiftsLeastRow, standIns := [], harness := (true, "77b92d4523fc8e26d0952bebb765fc8b42f01dcdfbb53eb56e785b82a1b6d2c2"), looks := false }, kinds := [], alts := [], laidByText := true, laidKinds := [.data, .data, .data, .data, .data], laidTests := true, laidLooks := .later }
def ShiftsLeastCardSaid : Prop := Claim7.holds Tryd.pinned (.plain (OpenSpec.ofChange shiftsLeastSpec)) shiftsLeastCard

/-- THE SECOND FORM's CARD OF 'ganseylaw27.ShiftsLeast'. -/
def shiftsLeastUptoCard : Claim7 := { stood := { row := shiftsLeastUptoRow, standIns := [], harness := (true, "77b92d4523fc8e26d0952bebb765fc8b42f01dcdfbb53eb56e785b82a1b6d2c2"), looks := false }, kinds := [], alts := [], laidByText := true, laidKinds := [.data, .data, .data, .data, .data], laidTests := true, laidLooks := .later }
def ShiftsLeastUptoCardSaid : Prop := Claim7.holds Tryd.pinned (.plain (OpenSpec.upto shiftsLeastSpec)) shiftsLeastUptoCard
end Rows
end Go.Proofs.YteglgnkcpaagjaaDoor
