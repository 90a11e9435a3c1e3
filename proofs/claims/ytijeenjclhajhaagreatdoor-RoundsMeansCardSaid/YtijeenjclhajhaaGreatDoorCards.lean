/-
  DERIVED. GIVEN WITH THE SEED: THE CARDS: each row of YtijeenjclhajhaaGreatDoorRows.lean that lists a variable, with what it lists TIED to the program's text (the seventh form; the later family's looks); each row that meets fmt, with fmt's text TOLD by the authors' own Lean function (tested against real Go, not proved from fmt's source: count such statements apart). THE CARD IS WHAT COUNTS. Prove the row's statement (the work); the ties are given (YtijeenjclhajhaaGreatDoorTie.lean); close each card by the builder's one call (the guide's Derived/Test/ToyasCard.lean, 'card_holds'). Laid BY PROGRAM, IN A SANDBOX (cutbox-door.mjs). By AI agents, Wed Nov 11 2026. No macro, syntax, notation, axiom, sorry.
-/
import Derived.Test.YtijeenjclhajhaaGreatDoorRows
import GoSem.ClaimSeven
namespace Go.Proofs.YtijeenjclhajhaaGreatDoor
namespace Rows

/-- THE TIED CARD OF 'ganseylaw32.RoundsHeld'. -/
def roundsHeldCard : Claim7 := { stood := { row := roundsHeldRow, standIns := [], harness := (true, "c761c0999b542571c10c94376e82d9758ed92790abe70d1f5bcf5b18a2269a29"), looks := false }, kinds := [], alts := [], laidByText := true, laidKinds := [.data, .data, .data, .data, .data, .data], laidTests := true, laidLooks := .later }
def RoundsHeldCardSaid : Prop := Claim7.holds Tryz.pinned (.plain (OpenSpec.ofChange roundsHeldSpec)) roundsHeldCard

/-- THE TIED CARD OF 'ganseylaw32.RoundsMeans'. -/
def roundsMeansCard : Claim7 := { stood := { row := roundsMeansRow, standIns := [], harness := (true, "c761c0999b542571c10c94376e82d9758ed92790abe70d1f5bcf5b18a2269a29"), looks := false }, kinds := [], alts := [], laidByText := true, laidKinds := [.data, .data, .data, .data, .data, .data], laidTests := true, laidLooks := .later }
def RoundsMeansCardSaid : Prop := Claim7.holds Tryz.pinned (.plain (OpenSpec.ofChange roundsMeansSpec)) roundsMeansCard

/-- THE SECOND FORM's CARD OF 'ganseylaw32.RoundsHeld'. -/
def roundsHeldUptoCard : Claim7 := { stood := { row := roundsHeldUptoRow, standIns := [], harness := (true, "c761c0999b542571c10c94376e82d9758ed92790abe70d1f5bcf5b18a2269a29"), looks := false }, kinds := [], alts := [], laidByText := true, laidKinds := [.data, .data, .data, .data, .data, .data], laidTests := true, laidLooks := .later }
def RoundsHeldUptoCardSaid : Prop := Claim7.holds Tryz.pinned (.plain (OpenSpec.upto roundsHeldSpec)) roundsHeldUptoCard

/-- THE SECOND FORM's CARD OF 'ganseylaw32.RoundsMeans'. -/
def roundsMeansUptoCard : Claim7 := { stood := { row := roundsMeansUptoRow, standIns := [], harness := (true, "c761c0999b542571c10c94376e82d9758ed92790abe70d1f5bcf5b18a2269a29"), looks := false }, kinds := [], alts := [], laidByText := true, laidKinds := [.data, .data, .data, .data, .data, .data], laidTests := true, laidLooks := .later }
def RoundsMeansUptoCardSaid : Prop := Claim7.holds Tryz.pinned (.plain (OpenSpec.upto roundsMeansSpec)) roundsMeansUptoCard
end Rows
end Go.Proofs.YtijeenjclhajhaaGreatDoor
