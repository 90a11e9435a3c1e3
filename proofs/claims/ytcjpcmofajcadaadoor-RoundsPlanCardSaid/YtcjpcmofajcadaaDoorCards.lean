/-
  DERIVED. GIVEN WITH THE SEED: THE CARDS: each row of YtcjpcmofajcadaaDoorRows.lean that lists a variable, with what it lists TIED to the program's text (the seventh form; the later family's looks); each row that meets fmt, with fmt's text TOLD by the authors' own Lean function (tested against real Go, not proved from fmt's source: count such statements apart). THE CARD IS WHAT COUNTS. Prove the row's statement (the work); the ties are given (YtcjpcmofajcadaaDoorTie.lean); close each card by the builder's one call (the guide's Derived/Test/ToyasCard.lean, 'card_holds'). Laid BY PROGRAM, IN A SANDBOX (cutbox-door.mjs). By AI agents, Wed Nov 11 2026. No macro, syntax, notation, axiom, sorry.
-/
import Derived.Test.YtcjpcmofajcadaaDoorRows
import GoSem.ClaimSeven
namespace Go.Proofs.YtcjpcmofajcadaaDoor
namespace Rows

/-- THE TIED CARD OF 'ganseylaw27.ShiftsPlan'. -/
def shiftsPlanCard : Claim7 := { stood := { row := shiftsPlanRow, standIns := [], harness := (true, "ab0a47abb8a1fa9f71d6dd2d27154f1a828aa586badd7fa525aea957328fd626"), looks := false }, kinds := [], alts := [], laidByText := true, laidKinds := [.data, .data, .data, .data, .data], laidTests := true, laidLooks := .later }
def ShiftsPlanCardSaid : Prop := Claim7.holds Tryd.pinned (.plain (OpenSpec.ofChange shiftsPlanSpec)) shiftsPlanCard

/-- THE TIED CARD OF 'ganseylaw27.ShiftsLeast'. -/
def shiftsLeastCard : Claim7 := { stood := { row := shiftsLeastRow, standIns := [], harness := (true, "ab0a47abb8a1fa9f71d6dd2d27154f1a828aa586badd7fa525aea957328fd626"), looks := false }, kinds := [], alts := [], laidByText := true, laidKinds := [.data, .data, .data, .data, .data], laidTests := true, laidLooks := .later }
def ShiftsLeastCardSaid : Prop := Claim7.holds Tryd.pinned (.plain (OpenSpec.ofChange shiftsLeastSpec)) shiftsLeastCard

/-- THE TIED CARD OF 'ganseylaw27.ShiftsErrors'. -/
def shiftsErrorsCard : Claim7 := { stood := { row := shiftsErrorsRow, standIns := [], harness := (true, "ab0a47abb8a1fa9f71d6dd2d27154f1a828aa586badd7fa525aea957328fd626"), looks := false }, kinds := [], alts := [], laidByText := true, laidKinds := [.data, .data, .data, .data, .data], laidTests := true, laidLooks := .later }
def ShiftsErrorsCardSaid : Prop := Claim7.holds Tryd.pinned (.plain (OpenSpec.ofChange shiftsErrorsSpec)) shiftsErrorsCard

/-- THE TIED CARD OF 'ganseylaw29.EdgesPrograms'. -/
def edgesProgramsCard : Claim7 := { stood := { row := edgesProgramsRow, standIns := [], harness := (true, "ab0a47abb8a1fa9f71d6dd2d27154f1a828aa586badd7fa525aea957328fd626"), looks := false }, kinds := [], alts := [], laidByText := true, laidKinds := [.data, .data, .data, .data, .data], laidTests := true, laidLooks := .later }
def EdgesProgramsCardSaid : Prop := Claim7.holds Tryd.pinned (.plain (OpenSpec.ofChange edgesProgramsSpec)) edgesProgramsCard

/-- THE TIED CARD OF 'ganseylaw29.EdgesErrors'. -/
def edgesErrorsCard : Claim7 := { stood := { row := edgesErrorsRow, standIns := [], harness := (true, "ab0a47abb8a1fa9f71d6dd2d27154f1a828aa586badd7fa525aea957328fd626"), looks := false }, kinds := [], alts := [], laidByText := true, laidKinds := [.data, .data, .data, .data, .data], laidTests := true, laidLooks := .later }
def EdgesErrorsCardSaid : Prop := Claim7.holds Tryd.pinned (.plain (OpenSpec.ofChange edgesErrorsSpec)) edgesErrorsCard

/-- THE TIED CARD OF 'ganseylaw32.RoundsPlan'. -/
def roundsPlanCard : Claim7 := { stood := { row := roundsPlanRow, standIns := [], harness := (true, "ab0a47abb8a1fa9f71d6dd2d27154f1a828aa586badd7fa525aea957328fd626"), looks := false }, kinds := [], alts := [], laidByText := true, laidKinds := [.data, .data, .data, .data, .data], laidTests := true, laidLooks := .later }
def RoundsPlanCardSaid : Prop := Claim7.holds Tryd.pinned (.plain (OpenSpec.ofChange roundsPlanSpec)) roundsPlanCard

/-- THE TIED CARD OF 'ganseylaw32.RoundsErrors'. -/
def roundsErrorsCard : Claim7 := { stood := { row := roundsErrorsRow, standIns := [], harness := (true, "ab0a47abb8a1fa9f71d6dd2d27154f1a828aa586badd7fa525aea957328fd626"), looks := false }, kinds := [], alts := [], laidByText := true, laidKinds := [.data, .data, .data, .data, .data], laidTests := true, laidLooks := .later }
def RoundsErrorsCardSaid : Prop := Claim7.holds Tryd.pinned (.plain (OpenSpec.ofChange roundsErrorsSpec)) roundsErrorsCard

/-- THE SECOND FORM's CARD OF 'ganseylaw27.ShiftsPlan'. -/
def shiftsPlanUptoCard : Claim7 := { stood := { row := shiftsPlanUptoRow, standIns := [], harness := (true, "ab0a47abb8a1fa9f71d6dd2d27154f1a828aa586badd7fa525aea957328fd626"), looks := false }, kinds := [], alts := [], laidByText := true, laidKinds := [.data, .data, .data, .data, .data], laidTests := true, laidLooks := .later }
def ShiftsPlanUptoCardSaid : Prop := Claim7.holds Tryd.pinned (.plain (OpenSpec.upto shiftsPlanSpec)) shiftsPlanUptoCard

/-- THE SECOND FORM's CARD OF 'ganseylaw27.ShiftsLeast'. -/
def shiftsLeastUptoCard : Claim7 := { stood := { row := shiftsLeastUptoRow, standIns := [], harness := (true, "ab0a47abb8a1fa9f71d6dd2d27154f1a828aa586badd7fa525aea957328fd626"), looks := false }, kinds := [], alts := [], laidByText := true, laidKinds := [.data, .data, .data, .data, .data], laidTests := true, laidLooks := .later }
def ShiftsLeastUptoCardSaid : Prop := Claim7.holds Tryd.pinned (.plain (OpenSpec.upto shiftsLeastSpec)) shiftsLeastUptoCard

/-- THE SECOND FORM's CARD OF 'ganseylaw27.ShiftsErrors'. -/
def shiftsErrorsUptoCard : Claim7 := { stood := { row := shiftsErrorsUptoRow, standIns := [], harness := (true, "ab0a47abb8a1fa9f71d6dd2d27154f1a828aa586badd7fa525aea957328fd626"), looks := false }, kinds := [], alts := [], laidByText := true, laidKinds := [.data, .data, .data, .data, .data], laidTests := true, laidLooks := .later }
def ShiftsErrorsUptoCardSaid : Prop := Claim7.holds Tryd.pinned (.plain (OpenSpec.upto shiftsErrorsSpec)) shiftsErrorsUptoCard

/-- THE SECOND FORM's CARD OF 'ganseylaw29.EdgesPrograms'. -/
def edgesProgramsUptoCard : Claim7 := { stood := { row := edgesProgramsUptoRow, standIns := [], harness := (true, "ab0a47abb8a1fa9f71d6dd2d27154f1a828aa586badd7fa525aea957328fd626"), looks := false }, kinds := [], alts := [], laidByText := true, laidKinds := [.data, .data, .data, .data, .data], laidTests := true, laidLooks := .later }
def EdgesProgramsUptoCardSaid : Prop := Claim7.holds Tryd.pinned (.plain (OpenSpec.upto edgesProgramsSpec)) edgesProgramsUptoCard

/-- THE SECOND FORM's CARD OF 'ganseylaw29.EdgesErrors'. -/
def edgesErrorsUptoCard : Claim7 := { stood := { row := edgesErrorsUptoRow, standIns := [], harness := (true, "ab0a47abb8a1fa9f71d6dd2d27154f1a828aa586badd7fa525aea957328fd626"), looks := false }, kinds := [], alts := [], laidByText := true, laidKinds := [.data, .data, .data, .data, .data], laidTests := true, laidLooks := .later }
def EdgesErrorsUptoCardSaid : Prop := Claim7.holds Tryd.pinned (.plain (OpenSpec.upto edgesErrorsSpec)) edgesErrorsUptoCard

/-- THE SECOND FORM's CARD OF 'ganseylaw32.RoundsPlan'. -/
def roundsPlanUptoCard : Claim7 := { stood := { row := roundsPlanUptoRow, standIns := [], harness := (true, "ab0a47abb8a1fa9f71d6dd2d27154f1a828aa586badd7fa525aea957328fd626"), looks := false }, kinds := [], alts := [], laidByText := true, laidKinds := [.data, .data, .data, .data, .data], laidTests := true, laidLooks := .later }
def RoundsPlanUptoCardSaid : Prop := Claim7.holds Tryd.pinned (.plain (OpenSpec.upto roundsPlanSpec)) roundsPlanUptoCard

/-- THE SECOND FORM's CARD OF 'ganseylaw32.RoundsErrors'. -/
def roundsErrorsUptoCard : Claim7 := { stood := { row := roundsErrorsUptoRow, standIns := [], harness := (true, "ab0a47abb8a1fa9f71d6dd2d27154f1a828aa586badd7fa525aea957328fd626"), looks := false }, kinds := [], alts := [], laidByText := true, laidKinds := [.data, .data, .data, .data, .data], laidTests := true, laidLooks := .later }
def RoundsErrorsUptoCardSaid : Prop := Claim7.holds Tryd.pinned (.plain (OpenSpec.upto roundsErrorsSpec)) roundsErrorsUptoCard
end Rows
end Go.Proofs.YtcjpcmofajcadaaDoor
