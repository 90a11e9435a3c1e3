/-
  DERIVED. GIVEN WITH THE SEED: THE CARDS: each row of YtihcolehefloeaaDoorRows.lean that lists a variable, with what it lists TIED to the program's text (the seventh form; the later family's looks); each row that meets fmt, with fmt's text TOLD by the authors' own Lean function (tested against real Go, not proved from fmt's source: count such statements apart). THE CARD IS WHAT COUNTS. Prove the row's statement (the work); the ties are given (YtihcolehefloeaaDoorTie.lean); close each card by the builder's one call (the guide's Derived/Test/ToyasCard.lean, 'card_holds'). Laid BY PROGRAM, IN A SANDBOX (cutbox-door.mjs). By AI agents, Wed Nov 11 2026. No macro, syntax, notation, axiom, sorry.
-/
import Derived.Test.YtihcolehefloeaaDoorRows
import GoSem.ClaimSeven
namespace Go.Proofs.YtihcolehefloeaaDoor
namespace Rows

/-- THE TIED CARD OF 'ganseylaw30.CoursesPlan'. -/
def coursesPlanCard : Claim7 := { stood := { row := coursesPlanRow, standIns := [], harness := (true, "32d830e8155833e613efe9fcf704227c2ce9513f3b2ada5e294fb3271e79d759"), looks := false }, kinds := [], alts := [], laidByText := true, laidKinds := [.data, .data, .data, .data, .data, .data], laidTests := true, laidLooks := .later }
def CoursesPlanCardSaid : Prop := Claim7.holds Tryd.pinned (.plain (OpenSpec.ofChange coursesPlanSpec)) coursesPlanCard

/-- THE TIED CARD OF 'ganseylaw30.CoursesErrors'. -/
def coursesErrorsCard : Claim7 := { stood := { row := coursesErrorsRow, standIns := [], harness := (true, "32d830e8155833e613efe9fcf704227c2ce9513f3b2ada5e294fb3271e79d759"), looks := false }, kinds := [], alts := [], laidByText := true, laidKinds := [.data, .data, .data, .data, .data, .data], laidTests := true, laidLooks := .later }
def CoursesErrorsCardSaid : Prop := Claim7.holds Tryd.pinned (.plain (OpenSpec.ofChange coursesErrorsSpec)) coursesErrorsCard

/-- THE TIED CARD OF 'ganseylaw31.FlatsErrors'. -/
def flatsErrorsCard : Claim7 := { stood := { row := flatsErrorsRow, standIns := [], harness := (true, "32d830e8155833e613efe9fcf704227c2ce9513f3b2ada5e294fb3271e79d759"), looks := false }, kinds := [], alts := [], laidByText := true, laidKinds := [.data, .data, .data, .data, .data], laidTests := true, laidLooks := .later }
def FlatsErrorsCardSaid : Prop := Claim7.holds Tryd.pinned (.plain (OpenSpec.ofChange flatsErrorsSpec)) flatsErrorsCard

/-- THE SECOND FORM's CARD OF 'ganseylaw30.CoursesPlan'. -/
def coursesPlanUptoCard : Claim7 := { stood := { row := coursesPlanUptoRow, standIns := [], harness := (true, "32d830e8155833e613efe9fcf704227c2ce9513f3b2ada5e294fb3271e79d759"), looks := false }, kinds := [], alts := [], laidByText := true, laidKinds := [.data, .data, .data, .data, .data, .data], laidTests := true, laidLooks := .later }
def CoursesPlanUptoCardSaid : Prop := Claim7.holds Tryd.pinned (.plain (OpenSpec.upto coursesPlanSpec)) coursesPlanUptoCard

/-- THE SECOND FORM's CARD OF 'ganseylaw30.CoursesErrors'. -/
def coursesErrorsUptoCard : Claim7 := { stood := { row := coursesErrorsUptoRow, standIns := [], harness := (true, "32d830e8155833e613efe9fcf704227c2ce9513f3b2ada5e294fb3271e79d759"), looks := false }, kinds := [], alts := [], laidByText := true, laidKinds := [.data, .data, .data, .data, .data, .data], laidTests := true, laidLooks := .later }
def CoursesErrorsUptoCardSaid : Prop := Claim7.holds Tryd.pinned (.plain (OpenSpec.upto coursesErrorsSpec)) coursesErrorsUptoCard

/-- THE SECOND FORM's CARD OF 'ganseylaw31.FlatsErrors'. -/
def flatsErrorsUptoCard : Claim7 := { stood := { row := flatsErrorsUptoRow, standIns := [], harness := (true, "32d830e8155833e613efe9fcf704227c2ce9513f3b2ada5e294fb3271e79d759"), looks := false }, kinds := [], alts := [], laidByText := true, laidKinds := [.data, .data, .data, .data, .data], laidTests := true, laidLooks := .later }
def FlatsErrorsUptoCardSaid : Prop := Claim7.holds Tryd.pinned (.plain (OpenSpec.upto flatsErrorsSpec)) flatsErrorsUptoCard
end Rows
end Go.Proofs.YtihcolehefloeaaDoor
