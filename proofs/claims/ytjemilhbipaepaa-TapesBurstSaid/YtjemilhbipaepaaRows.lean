/-
  No cell of these rows narrows 'for every input' (looked for: loops, veiled, ifaces, maps, wideKeys, modest, calm, conditions, laid).
  DERIVED. THE GIVEN ROWS OF THIS SEAT. 6 by the template 'for every input the law returns true; each argument reads behind the call as it read before'; 0 by the template 'total and deterministic' (their statements: YtjemilhbipaepaaTotals.lean).
  GIVEN WITH THE SEED: the statements are not yours to turn. If you find one false, say at which input.
  Laid BY PROGRAM, IN A SANDBOX (cutbox-rows.mjs): the forced cells as the released guide's own fill.sh prints them over the translation 4ac816ed1d060e48… (all of the seat's roots in one cut). By AI agents, Wed Nov 11 2026. No macro, syntax, notation, axiom, sorry.
-/
import Derived.Test.YtjemilhbipaepaaChecked
import GoSem.Claim
import GoSem.ClaimJoined
import GoSem.ClaimMapViews
import Derived.JoinedTies
import Derived.KernelRfl
namespace Go.Proofs.Ytjemilhbipaepaa
/- THE CELL 'sum', in the pinned program and in every row, IS THE sha256 OF THE DUMP (.gsa) THAT YtjemilhbipaepaaProg.lean LOADS. Nothing in Lean hashes anything: it is a label: what it is worth is what the hold of that sum in a sandbox is worth. -/
noncomputable def Try.pinned : Pinned := { name := "ytjemilhbipaepaa", sum := "4ac816ed1d060e48b7d8fee15f4859f1d882b6c8986f506ae033f4d787cd66ed", checked := Try.checked }
namespace Rows
def none {H : Type} : Left H := { results := [], args := [] }

/-- 'ganseylaw11.TapesCheck': WHATEVER THE INPUT: true; the input reads as it did. -/
def tapesCheckSpec : ChangeSpec := { name := "tapesCheck", fn := fun _ => fun
  | [d] => { results := [.lit (.bool true)], args := [d] }
  | _ => none }
def tapesCheckRow : OpenClaim := { program := "ytjemilhbipaepaa", sum := "4ac816ed1d060e48b7d8fee15f4859f1d882b6c8986f506ae033f4d787cd66ed", func := "gansey/ganseylaw11.TapesCheck", spec := "tapesCheck", unfollowed := true, recurses := true, apart := false }
def TapesCheckSaid : Prop := tapesCheckRow.holds Try.pinned (OpenSpec.ofChange tapesCheckSpec)

/-- ITS FALSE NEIGHBOUR: 'it returns false'. Refute it at one input. -/
def tapesCheckWrong : ChangeSpec := { name := "tapesCheck", fn := fun _ => fun
  | [d] => { results := [.lit (.bool false)], args := [d] }
  | _ => none }
def TapesCheckWrongFalsely : Prop := tapesCheckRow.holds Try.pinned (OpenSpec.ofChange tapesCheckWrong)

/-- 'ganseylaw11.TapesBack': WHATEVER THE INPUT: true; the input reads as it did. -/
def tapesBackSpec : ChangeSpec := { name := "tapesBack", fn := fun _ => fun
  | [d] => { results := [.lit (.bool true)], args := [d] }
  | _ => none }
def tapesBackRow : OpenClaim := { program := "ytjemilhbipaepaa", sum := "4ac816ed1d060e48b7d8fee15f4859f1d882b6c8986f506ae033f4d787cd66ed", func := "gansey/ganseylaw11.TapesBack", spec := "tapesBack", unfollowed := true, recurses := true, apart := false }
def TapesBackSaid : Prop := tapesBackRow.holds Try.pinned (OpenSpec.ofChange tapesBackSpec)

/-- ITS FALSE NEIGHBOUR: 'it returns false'. Refute it at one input. -/
def tapesBackWrong : ChangeSpec := { name := "tapesBack", fn := fun _ => fun
  | [d] => { results := [.lit (.bool false)], args := [d] }
  | _ => none }
def TapesBackWrongFalsely : Prop := tapesBackRow.holds Try.pinned (OpenSpec.ofChange tapesBackWrong)

/-- 'ganseylaw11.TapesBurst': WHATEVER THE INPUT: true; the input reads as it did. -/
def tapesBurstSpec : ChangeSpec := { name := "tapesBurst", fn := fun _ => fun
  | [d1, d2, d3] => { results := [.lit (.bool true)], args := [d1, d2, d3] }
  | _ => none }
def tapesBurstRow : OpenClaim := { program := "ytjemilhbipaepaa", sum := "4ac816ed1d060e48b7d8fee15f4859f1d882b6c8986f506ae033f4d787cd66ed", func := "gansey/ganseylaw11.TapesBurst", spec := "tapesBurst", unfollowed := true, recurses := true, apart := false }
def TapesBurstSaid : Prop := tapesBurstRow.holds Try.pinned (OpenSpec.ofChange tapesBurstSpec)

/-- ITS FALSE NEIGHBOUR: 'it returns false'. Refute it at one input. -/
def tapesBurstWrong : ChangeSpec := { name := "tapesBurst", fn := fun _ => fun
  | [d1, d2, d3] => { results := [.lit (.bool false)], args := [d1, d2, d3] }
  | _ => none }
def TapesBurstWrongFalsely : Prop := tapesBurstRow.holds Try.pinned (OpenSpec.ofChange tapesBurstWrong)

/-- 'ganseylaw11.TapesRead': WHATEVER THE INPUT: true; the input reads as it did. -/
def tapesReadSpec : ChangeSpec := { name := "tapesRead", fn := fun _ => fun
  | [d1, d2, d3] => { results := [.lit (.bool true)], args := [d1, d2, d3] }
  | _ => none }
def tapesReadRow : OpenClaim := { program := "ytjemilhbipaepaa", sum := "4ac816ed1d060e48b7d8fee15f4859f1d882b6c8986f506ae033f4d787cd66ed", func := "gansey/ganseylaw11.TapesRead", spec := "tapesRead", unfollowed := true, recurses := true, apart := false }
def TapesReadSaid : Prop := tapesReadRow.holds Try.pinned (OpenSpec.ofChange tapesReadSpec)

/-- ITS FALSE NEIGHBOUR: 'it returns false'. Refute it at one input. -/
def tapesReadWrong : ChangeSpec := { name := "tapesRead", fn := fun _ => fun
  | [d1, d2, d3] => { results := [.lit (.bool false)], args := [d1, d2, d3] }
  | _ => none }
def TapesReadWrongFalsely : Prop := tapesReadRow.holds Try.pinned (OpenSpec.ofChange tapesReadWrong)

/-- 'ganseylaw11.TapesCut': WHATEVER THE INPUT: true; the input reads as it did. -/
def tapesCutSpec : ChangeSpec := { name := "tapesCut", fn := fun _ => fun
  | [d1, d2] => { results := [.lit (.bool true)], args := [d1, d2] }
  | _ => none }
def tapesCutRow : OpenClaim := { program := "ytjemilhbipaepaa", sum := "4ac816ed1d060e48b7d8fee15f4859f1d882b6c8986f506ae033f4d787cd66ed", func := "gansey/ganseylaw11.TapesCut", spec := "tapesCut", unfollowed := true, recurses := true, apart := false }
def TapesCutSaid : Prop := tapesCutRow.holds Try.pinned (OpenSpec.ofChange tapesCutSpec)

/-- ITS FALSE NEIGHBOUR: 'it returns false'. Refute it at one input. -/
def tapesCutWrong : ChangeSpec := { name := "tapesCut", fn := fun _ => fun
  | [d1, d2] => { results := [.lit (.bool false)], args := [d1, d2] }
  | _ => none }
def TapesCutWrongFalsely : Prop := tapesCutRow.holds Try.pinned (OpenSpec.ofChange tapesCutWrong)

/-- 'ganseylaw11.TapesErrors': WHATEVER THE INPUT: true; the input reads as it did. -/
def tapesErrorsSpec : ChangeSpec := { name := "tapesErrors", fn := fun _ => fun
  | [d1, d2, d3] => { results := [.lit (.bool true)], args := [d1, d2, d3] }
  | _ => none }
def tapesErrorsRow : OpenClaim := { program := "ytjemilhbipaepaa", sum := "4ac816ed1d060e48b7d8fee15f4859f1d882b6c8986f506ae033f4d787cd66ed", func := "gansey/ganseylaw11.TapesErrors", spec := "tapesErrors", unfollowed := true, recurses := true, apart := false }
def TapesErrorsSaid : Prop := tapesErrorsRow.holds Try.pinned (OpenSpec.ofChange tapesErrorsSpec)

/-- ITS FALSE NEIGHBOUR: 'it returns false'. Refute it at one input. -/
def tapesErrorsWrong : ChangeSpec := { name := "tapesErrors", fn := fun _ => fun
  | [d1, d2, d3] => { results := [.lit (.bool false)], args := [d1, d2, d3] }
  | _ => none }
def TapesErrorsWrongFalsely : Prop := tapesErrorsRow.holds Try.pinned (OpenSpec.ofChange tapesErrorsWrong)

/- THE SECOND FORM. 'bulk': how many values and letters a reading holds, each counted each time it is reached (what is shared counts as often as it is met; a slice's spare places count too). A statement '..UptoSaid' is the law's where the arguments, and the package variables that the reading takes, are together of bulk at most 1048576: NARROWER than '..Said'. Prove '..Said' where nothing that the law and all that it calls make is longer than what came in: it says more and counts as full. Else prove '..UptoSaid'. A law counts once. -/
mutual
def uptoBulk {H : Type} : DataW H → Nat
  | .lit (.string bytes) => bytes.length + 1
  | .lit _ => 1
  | .nil => 1
  | .ptr d => uptoBulk d + 1
  | .slice elems spare => uptoBulkAll elems + uptoBulkAll spare + 1
  | .agg parts => uptoBulkAll parts + 1
  | .iface _ d => uptoBulk d + 1
  | .map entries => uptoBulkEntries entries + 1
  | .held _ => 1
def uptoBulkAll {H : Type} : List (DataW H) → Nat
  | [] => 0
  | d :: r => uptoBulk d + uptoBulkAll r
def uptoBulkEntries {H : Type} : List (Lit × DataW H) → Nat
  | [] => 0
  | x :: r => uptoBulkEntry x + uptoBulkEntries r
def uptoBulkEntry {H : Type} : Lit × DataW H → Nat
  | (.string bytes, d) => bytes.length + uptoBulk d + 1
  | (_, d) => uptoBulk d + 1
 end
def uptoSmall : (H : Type) → List (DataW H) → Bool := fun _ ds => decide (uptoBulkAll ds ≤ 1048576)
def OpenSpec.upto (s : _root_.Go.ChangeSpec) : _root_.Go.OpenSpec := { _root_.Go.OpenSpec.ofChange s with cond := some uptoSmall }

/-- 'ganseylaw11.TapesCheck', WHERE WHAT IT READS IS OF BULK AT MOST 1048576: true; the input reads as it did. -/
def tapesCheckUptoRow : OpenClaim := { program := "ytjemilhbipaepaa", sum := "4ac816ed1d060e48b7d8fee15f4859f1d882b6c8986f506ae033f4d787cd66ed", func := "gansey/ganseylaw11.TapesCheck", spec := "tapesCheck", unfollowed := true, recurses := true, apart := false, narrowed := true }
def TapesCheckUptoSaid : Prop := tapesCheckUptoRow.holds Try.pinned (OpenSpec.upto tapesCheckSpec)

/-- 'ganseylaw11.TapesBack', WHERE WHAT IT READS IS OF BULK AT MOST 1048576: true; the input reads as it did. -/
def tapesBackUptoRow : OpenClaim := { program := "ytjemilhbipaepaa", sum := "4ac816ed1d060e48b7d8fee15f4859f1d882b6c8986f506ae033f4d787cd66ed", func := "gansey/ganseylaw11.TapesBack", spec := "tapesBack", unfollowed := true, recurses := true, apart := false, narrowed := true }
def TapesBackUptoSaid : Prop := tapesBackUptoRow.holds Try.pinned (OpenSpec.upto tapesBackSpec)

/-- 'ganseylaw11.TapesBurst', WHERE WHAT IT READS IS OF BULK AT MOST 1048576: true; the input reads as it did. -/
def tapesBurstUptoRow : OpenClaim := { program := "ytjemilhbipaepaa", sum := "4ac816ed1d060e48b7d8fee15f4859f1d882b6c8986f506ae033f4d787cd66ed", func := "gansey/ganseylaw11.TapesBurst", spec := "tapesBurst", unfollowed := true, recurses := true, apart := false, narrowed := true }
def TapesBurstUptoSaid : Prop := tapesBurstUptoRow.holds Try.pinned (OpenSpec.upto tapesBurstSpec)

/-- 'ganseylaw11.TapesRead', WHERE WHAT IT READS IS OF BULK AT MOST 1048576: true; the input reads as it did. -/
def tapesReadUptoRow : OpenClaim := { program := "ytjemilhbipaepaa", sum := "4ac816ed1d060e48b7d8fee15f4859f1d882b6c8986f506ae033f4d787cd66ed", func := "gansey/ganseylaw11.TapesRead", spec := "tapesRead", unfollowed := true, recurses := true, apart := false, narrowed := true }
def TapesReadUptoSaid : Prop := tapesReadUptoRow.holds Try.pinned (OpenSpec.upto tapesReadSpec)

/-- 'ganseylaw11.TapesCut', WHERE WHAT IT READS IS OF BULK AT MOST 1048576: true; the input reads as it did. -/
def tapesCutUptoRow : OpenClaim := { program := "ytjemilhbipaepaa", sum := "4ac816ed1d060e48b7d8fee15f4859f1d882b6c8986f506ae033f4d787cd66ed", func := "gansey/ganseylaw11.TapesCut", spec := "tapesCut", unfollowed := true, recurses := true, apart := false, narrowed := true }
def TapesCutUptoSaid : Prop := tapesCutUptoRow.holds Try.pinned (OpenSpec.upto tapesCutSpec)

/-- 'ganseylaw11.TapesErrors', WHERE WHAT IT READS IS OF BULK AT MOST 1048576: true; the input reads as it did. -/
def tapesErrorsUptoRow : OpenClaim := { program := "ytjemilhbipaepaa", sum := "4ac816ed1d060e48b7d8fee15f4859f1d882b6c8986f506ae033f4d787cd66ed", func := "gansey/ganseylaw11.TapesErrors", spec := "tapesErrors", unfollowed := true, recurses := true, apart := false, narrowed := true }
def TapesErrorsUptoSaid : Prop := tapesErrorsUptoRow.holds Try.pinned (OpenSpec.upto tapesErrorsSpec)

end Rows
end Go.Proofs.Ytjemilhbipaepaa
