/-
  DERIVED. GIVEN WITH THE SEED: THE CARDS: each row of YtcheedjfedcbpaaGreatDoorRows.lean that lists a variable, with what it lists TIED to the program's text (the seventh form; the later family's looks); each row that meets fmt, with fmt's text TOLD by the authors' own Lean function (tested against real Go, not proved from fmt's source: count such statements apart). THE CARD IS WHAT COUNTS. Prove the row's statement (the work); the ties are given (YtcheedjfedcbpaaGreatDoorTie.lean); close each card by the builder's one call (the guide's Derived/Test/ToyasCard.lean, 'card_holds'). Laid BY PROGRAM, IN A SANDBOX (cutbox-door.mjs). By AI agents, Wed Nov 11 2026. No macro, syntax, notation, axiom, sorry.
-/
import Derived.Test.YtcheedjfedcbpaaGreatDoorRows
import GoSem.ClaimSeven
namespace Go.Proofs.YtcheedjfedcbpaaGreatDoor
namespace Rows

/-- THE TIED CARD OF 'ganseylaw27.ShiftsShift'. -/
def shiftsShiftCard : Claim7 := { stood := { row := shiftsShiftRow, standIns := [], harness := (true, "bdf67d7fb778fe1936f6bb3edb616c4ec66a86344aaaee9a694707a1b00823f3"), looks := false }, kinds := [], alts := [], laidByText := true, laidKinds := [.data, .data, .data, .data, .data, .data], laidTests := true, laidLooks := .later }
def ShiftsShiftCardSaid : Prop := Claim7.holds Tryz.pinned (.plain (OpenSpec.ofChange shiftsShiftSpec)) shiftsShiftCard

/-- THE TIED CARD OF 'ganseylaw27.ShiftsFront'. -/
def shiftsFrontCard : Claim7 := { stood := { row := shiftsFrontRow, standIns := [], harness := (true, "bdf67d7fb778fe1936f6bb3edb616c4ec66a86344aaaee9a694707a1b00823f3"), looks := false }, kinds := [], alts := [], laidByText := true, laidKinds := [.data, .data, .data, .data, .data, .data], laidTests := true, laidLooks := .later }
def ShiftsFrontCardSaid : Prop := Claim7.holds Tryz.pinned (.plain (OpenSpec.ofChange shiftsFrontSpec)) shiftsFrontCard

/-- THE TIED CARD OF 'ganseylaw29.EdgesCast'. -/
def edgesCastCard : Claim7 := { stood := { row := edgesCastRow, standIns := [], harness := (true, "bdf67d7fb778fe1936f6bb3edb616c4ec66a86344aaaee9a694707a1b00823f3"), looks := false }, kinds := [], alts := [], laidByText := true, laidKinds := [.data, .data, .data, .data, .data, .data], laidTests := true, laidLooks := .later }
def EdgesCastCardSaid : Prop := Claim7.holds Tryz.pinned (.plain (OpenSpec.ofChange edgesCastSpec)) edgesCastCard

/-- THE TIED CARD OF 'ganseylaw29.EdgesBind'. -/
def edgesBindCard : Claim7 := { stood := { row := edgesBindRow, standIns := [], harness := (true, "bdf67d7fb778fe1936f6bb3edb616c4ec66a86344aaaee9a694707a1b00823f3"), looks := false }, kinds := [], alts := [], laidByText := true, laidKinds := [.data, .data, .data, .data, .data, .data], laidTests := true, laidLooks := .later }
def EdgesBindCardSaid : Prop := Claim7.holds Tryz.pinned (.plain (OpenSpec.ofChange edgesBindSpec)) edgesBindCard

/-- THE SECOND FORM's CARD OF 'ganseylaw27.ShiftsShift'. -/
def shiftsShiftUptoCard : Claim7 := { stood := { row := shiftsShiftUptoRow, standIns := [], harness := (true, "bdf67d7fb778fe1936f6bb3edb616c4ec66a86344aaaee9a694707a1b00823f3"), looks := false }, kinds := [], alts := [], laidByText := true, laidKinds := [.data, .data, .data, .data, .data, .data], laidTests := true, laidLooks := .later }
def ShiftsShiftUptoCardSaid : Prop := Claim7.holds Tryz.pinned (.plain (OpenSpec.upto shiftsShiftSpec)) shiftsShiftUptoCard

/-- THE SECOND FORM's CARD OF 'ganseylaw27.ShiftsFront'. -/
def shiftsFrontUptoCard : Claim7 := { stood := { row := shiftsFrontUptoRow, standIns := [], harness := (true, "bdf67d7fb778fe1936f6bb3edb616c4ec66a86344aaaee9a694707a1b00823f3"), looks := false }, kinds := [], alts := [], laidByText := true, laidKinds := [.data, .data, .data, .data, .data, .data], laidTests := true, laidLooks := .later }
def ShiftsFrontUptoCardSaid : Prop := Claim7.holds Tryz.pinned (.plain (OpenSpec.upto shiftsFrontSpec)) shiftsFrontUptoCard

/-- THE SECOND FORM's CARD OF 'ganseylaw29.EdgesCast'. -/
def edgesCastUptoCard : Claim7 := { stood := { row := edgesCastUptoRow, standIns := [], harness := (true, "bdf67d7fb778fe1936f6bb3edb616c4ec66a86344aaaee9a694707a1b00823f3"), looks := false }, kinds := [], alts := [], laidByText := true, laidKinds := [.data, .data, .data, .data, .data, .data], laidTests := true, laidLooks := .later }
def EdgesCastUptoCardSaid : Prop := Claim7.holds Tryz.pinned (.plain (OpenSpec.upto edgesCastSpec)) edgesCastUptoCard

/-- THE SECOND FORM's CARD OF 'ganseylaw29.EdgesBind'. -/
def edgesBindUptoCard : Claim7 := { stood := { row := edgesBindUptoRow, standIns := [], harness := (true, "bdf67d7fb778fe1936f6bb3edb616c4ec66a86344aaaee9a694707a1b00823f3"), looks := false }, kinds := [], alts := [], laidByText := true, laidKinds := [.data, .data, .data, .data, .data, .data], laidTests := true, laidLooks := .later }
def EdgesBindUptoCardSaid : Prop := Claim7.holds Tryz.pinned (.plain (OpenSpec.upto edgesBindSpec)) edgesBindUptoCard
end Rows
end Go.Proofs.YtcheedjfedcbpaaGreatDoor
