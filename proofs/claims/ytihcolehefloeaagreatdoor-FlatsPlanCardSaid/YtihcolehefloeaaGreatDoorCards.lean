/-
  DERIVED. GIVEN WITH THE SEED: THE CARDS: each row of YtihcolehefloeaaGreatDoorRows.lean that lists a variable, with what it lists TIED to the program's text (the seventh form; the later family's looks); each row that meets fmt, with fmt's text TOLD by the authors' own Lean function (tested against real Go, not proved from fmt's source: count such statements apart). THE CARD IS WHAT COUNTS. Prove the row's statement (the work); the ties are given (YtihcolehefloeaaGreatDoorTie.lean); close each card by the builder's one call (the guide's Derived/Test/ToyasCard.lean, 'card_holds'). Laid BY PROGRAM, IN A SANDBOX (cutbox-door.mjs). By AI agents, Wed Nov 11 2026. No macro, syntax, notation, axiom, sorry.
-/
import Derived.Test.YtihcolehefloeaaGreatDoorRows
import GoSem.ClaimSeven
namespace Go.Proofs.YtihcolehefloeaaGreatDoor
namespace Rows

/-- THE TIED CARD OF 'ganseylaw31.FlatsRows'. -/
def flatsRowsCard : Claim7 := { stood := { row := flatsRowsRow, standIns := [], harness := (true, "1531a111677d512435148a3ca0489a0d7075f4af79c303ac4eb7d913baa44d48"), looks := false }, kinds := [], alts := [], laidByText := true, laidKinds := [.data, .data, .data, .data, .data], laidTests := true, laidLooks := .later }
def FlatsRowsCardSaid : Prop := Claim7.holds Tryz.pinned (.plain (OpenSpec.ofChange flatsRowsSpec)) flatsRowsCard

/-- THE TIED CARD OF 'ganseylaw31.FlatsPlan'. -/
def flatsPlanCard : Claim7 := { stood := { row := flatsPlanRow, standIns := [], harness := (true, "1531a111677d512435148a3ca0489a0d7075f4af79c303ac4eb7d913baa44d48"), looks := false }, kinds := [], alts := [], laidByText := true, laidKinds := [.data, .data, .data, .data, .data], laidTests := true, laidLooks := .later }
def FlatsPlanCardSaid : Prop := Claim7.holds Tryz.pinned (.plain (OpenSpec.ofChange flatsPlanSpec)) flatsPlanCard

/-- THE SECOND FORM's CARD OF 'ganseylaw31.FlatsRows'. -/
def flatsRowsUptoCard : Claim7 := { stood := { row := flatsRowsUptoRow, standIns := [], harness := (true, "1531a111677d512435148a3ca0489a0d7075f4af79c303ac4eb7d913baa44d48"), looks := false }, kinds := [], alts := [], laidByText := true, laidKinds := [.data, .data, .data, .data, .data], laidTests := true, laidLooks := .later }
def FlatsRowsUptoCardSaid : Prop := Claim7.holds Tryz.pinned (.plain (OpenSpec.upto flatsRowsSpec)) flatsRowsUptoCard

/-- THE SECOND FORM's CARD OF 'ganseylaw31.FlatsPlan'. -/
def flatsPlanUptoCard : Claim7 := { stood := { row := flatsPlanUptoRow, standIns := [], harness := (true, "1531a111677d512435148a3ca0489a0d7075f4af79c303ac4eb7d913baa44d48"), looks := false }, kinds := [], alts := [], laidByText := true, laidKinds := [.data, .data, .data, .data, .data], laidTests := true, laidLooks := .later }
def FlatsPlanUptoCardSaid : Prop := Claim7.holds Tryz.pinned (.plain (OpenSpec.upto flatsPlanSpec)) flatsPlanUptoCard
end Rows
end Go.Proofs.YtihcolehefloeaaGreatDoor
