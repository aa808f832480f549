/-
  NARROWER THAN 'FOR EVERY INPUT', by the rows' own cells (each row's printed sentence says how): TermMeasures: loops · TermPuts: loops · TermSames: loops · FaceNames: loops · FaceBack: loops.
  DERIVED. THE GIVEN ROWS OF THIS SEAT. 5 by the template 'for every input the law returns true; each argument reads behind the call as it read before'; 0 by the template 'total and deterministic' (their statements: YtppeaofdohghgaaTotals.lean).
  GIVEN WITH THE SEED: the statements are not yours to turn. If you find one false, say at which input.
  Laid BY PROGRAM, IN A SANDBOX (cutbox-rows.mjs): the forced cells as the released guide's own fill.sh prints them over the translation 3a97f44eacf874a7… (all of the seat's roots in one cut). By AI agents, Wed Nov 11 2026. No macro, syntax, notation, axiom, sorry.
-/
import Derived.Test.YtppeaofdohghgaaChecked
import GoSem.Claim
import GoSem.ClaimJoined
import GoSem.ClaimMapViews
import Derived.JoinedTies
import Derived.KernelRfl
namespace Go.Proofs.Ytppeaofdohghgaa
/- THE CELL 'sum', in the pinned program and in every row, IS THE sha256 OF THE DUMP (.gsa) THAT YtppeaofdohghgaaProg.lean LOADS. Nothing in Lean hashes anything: it is a label: what it is worth is what the hold of that sum in a sandbox is worth. -/
noncomputable def Try.pinned : Pinned := { name := "ytppeaofdohghgaa", sum := "3a97f44eacf874a7b8e7542125a43eaa4036ee76bea83fed0eba2295a9797e95", checked := Try.checked }
namespace Rows
def none {H : Type} : Left H := { results := [], args := [] }

/-- 'notarylaw06.TermMeasures': WHATEVER THE INPUT: true; the input reads as it did. -/
def termMeasuresSpec : ChangeSpec := { name := "termMeasures", fn := fun _ => fun
  | [d] => { results := [.lit (.bool true)], args := [d] }
  | _ => none }
def termMeasuresRow : OpenClaim := { program := "ytppeaofdohghgaa", sum := "3a97f44eacf874a7b8e7542125a43eaa4036ee76bea83fed0eba2295a9797e95", func := "notary/notarylaw06.TermMeasures", spec := "termMeasures", unfollowed := true, recurses := true, loops := true, apart := false }
def TermMeasuresSaid : Prop := termMeasuresRow.holds Try.pinned (OpenSpec.ofChange termMeasuresSpec)

/-- ITS FALSE NEIGHBOUR: 'it returns false'. Refute it at one input. -/
def termMeasuresWrong : ChangeSpec := { name := "termMeasures", fn := fun _ => fun
  | [d] => { results := [.lit (.bool false)], args := [d] }
  | _ => none }
def TermMeasuresWrongFalsely : Prop := termMeasuresRow.holds Try.pinned (OpenSpec.ofChange termMeasuresWrong)

/-- 'notarylaw06.TermPuts': WHATEVER THE INPUT: true; the input reads as it did. -/
def termPutsSpec : ChangeSpec := { name := "termPuts", fn := fun _ => fun
  | [d] => { results := [.lit (.bool true)], args := [d] }
  | _ => none }
def termPutsRow : OpenClaim := { program := "ytppeaofdohghgaa", sum := "3a97f44eacf874a7b8e7542125a43eaa4036ee76bea83fed0eba2295a9797e95", func := "notary/notarylaw06.TermPuts", spec := "termPuts", unfollowed := true, recurses := true, loops := true, apart := false }
def TermPutsSaid : Prop := termPutsRow.holds Try.pinned (OpenSpec.ofChange termPutsSpec)

/-- ITS FALSE NEIGHBOUR: 'it returns false'. Refute it at one input. -/
def termPutsWrong : ChangeSpec := { name := "termPuts", fn := fun _ => fun
  | [d] => { results := [.lit (.bool false)], args := [d] }
  | _ => none }
def TermPutsWrongFalsely : Prop := termPutsRow.holds Try.pinned (OpenSpec.ofChange termPutsWrong)

/-- 'notarylaw06.TermSames': WHATEVER THE INPUT: true; the input reads as it did. -/
def termSamesSpec : ChangeSpec := { name := "termSames", fn := fun _ => fun
  | [d1, d2, d3] => { results := [.lit (.bool true)], args := [d1, d2, d3] }
  | _ => none }
def termSamesRow : OpenClaim := { program := "ytppeaofdohghgaa", sum := "3a97f44eacf874a7b8e7542125a43eaa4036ee76bea83fed0eba2295a9797e95", func := "notary/notarylaw06.TermSames", spec := "termSames", unfollowed := true, recurses := true, loops := true, apart := false }
def TermSamesSaid : Prop := termSamesRow.holds Try.pinned (OpenSpec.ofChange termSamesSpec)

/-- ITS FALSE NEIGHBOUR: 'it returns false'. Refute it at one input. -/
def termSamesWrong : ChangeSpec := { name := "termSames", fn := fun _ => fun
  | [d1, d2, d3] => { results := [.lit (.bool false)], args := [d1, d2, d3] }
  | _ => none }
def TermSamesWrongFalsely : Prop := termSamesRow.holds Try.pinned (OpenSpec.ofChange termSamesWrong)

/-- 'notarylaw18.FaceNames': WHATEVER THE INPUT: true; the input reads as it did. -/
def faceNamesSpec : ChangeSpec := { name := "faceNames", fn := fun _ => fun
  | [d1, d2, d3] => { results := [.lit (.bool true)], args := [d1, d2, d3] }
  | _ => none }
def faceNamesRow : OpenClaim := { program := "ytppeaofdohghgaa", sum := "3a97f44eacf874a7b8e7542125a43eaa4036ee76bea83fed0eba2295a9797e95", func := "notary/notarylaw18.FaceNames", spec := "faceNames", unfollowed := true, recurses := true, loops := true, apart := false }
def FaceNamesSaid : Prop := faceNamesRow.holds Try.pinned (OpenSpec.ofChange faceNamesSpec)

/-- ITS FALSE NEIGHBOUR: 'it returns false'. Refute it at one input. -/
def faceNamesWrong : ChangeSpec := { name := "faceNames", fn := fun _ => fun
  | [d1, d2, d3] => { results := [.lit (.bool false)], args := [d1, d2, d3] }
  | _ => none }
def FaceNamesWrongFalsely : Prop := faceNamesRow.holds Try.pinned (OpenSpec.ofChange faceNamesWrong)

/-- 'notarylaw18.FaceBack': WHATEVER THE INPUT: true; the input reads as it did. -/
def faceBackSpec : ChangeSpec := { name := "faceBack", fn := fun _ => fun
  | [d1, d2, d3] => { results := [.lit (.bool true)], args := [d1, d2, d3] }
  | _ => none }
def faceBackRow : OpenClaim := { program := "ytppeaofdohghgaa", sum := "3a97f44eacf874a7b8e7542125a43eaa4036ee76bea83fed0eba2295a9797e95", func := "notary/notarylaw18.FaceBack", spec := "faceBack", unfollowed := true, recurses := true, loops := true, apart := false }
def FaceBackSaid : Prop := faceBackRow.holds Try.pinned (OpenSpec.ofChange faceBackSpec)

/-- ITS FALSE NEIGHBOUR: 'it returns false'. Refute it at one input. -/
def faceBackWrong : ChangeSpec := { name := "faceBack", fn := fun _ => fun
  | [d1, d2, d3] => { results := [.lit (.bool false)], args := [d1, d2, d3] }
  | _ => none }
def FaceBackWrongFalsely : Prop := faceBackRow.holds Try.pinned (OpenSpec.ofChange faceBackWrong)

/- THE SECOND FORM. 'bulk': how many values and letters a reading holds, each counted each time it is reached (what is shared counts as often as it is met; a slice's spare places count too). A statement '..UptoSaid' is the law's where the arguments, and the package variables that the reading takes, are together of bulk at most 1048576: NARROWER than '..Said'. Prove '..Said' where nothing that the law and all that it calls make is longer than what came in: it says more and counts as full. Else prove '..UptoSaid'. A law counts once. -/
mutual
def uptoBulk {H : Type} : DataW H → Nat
  | .lit (.string bytes) => bytes.length + 1
  | .lit _ => 1
  | .nil => 1
  | .ptr d => uptoBulk d + 1
  | .slice elems spare => uptoBulkAll elems + uptoBulkAll spare + 1
  | .agg parts => uptoBulkAll parts + 1
  | .iface _ d => uptoBulk d + 1
  | .map entries => uptoBulkEntries entries + 1
  | .held _ => 1
def uptoBulkAll {H : Type} : List (DataW H) → Nat
  | [] => 0
  | d :: r => uptoBulk d + uptoBulkAll r
def uptoBulkEntries {H : Type} : List (Lit × DataW H) → Nat
  | [] => 0
  | x :: r => uptoBulkEntry x + uptoBulkEntries r
def uptoBulkEntry {H : Type} : Lit × DataW H → Nat
  | (.string bytes, d) => bytes.length + uptoBulk d + 1
  | (_, d) => uptoBulk d + 1
 end
def uptoSmall : (H : Type) → List (DataW H) → Bool := fun _ ds => decide (uptoBulkAll ds ≤ 1048576)
def OpenSpec.upto (s : _root_.Go.ChangeSpec) : _root_.Go.OpenSpec := { _root_.Go.OpenSpec.ofChange s with cond := some uptoSmall }

/-- 'notarylaw06.TermMeasures', WHERE WHAT IT READS IS OF BULK AT MOST 1048576: true; the input reads as it did. -/
def termMeasuresUptoRow : OpenClaim := { program := "ytppeaofdohghgaa", sum := "3a97f44eacf874a7b8e7542125a43eaa4036ee76bea83fed0eba2295a9797e95", func := "notary/notarylaw06.TermMeasures", spec := "termMeasures", unfollowed := true, recurses := true, loops := true, apart := false, narrowed := true }
def TermMeasuresUptoSaid : Prop := termMeasuresUptoRow.holds Try.pinned (OpenSpec.upto termMeasuresSpec)

/-- 'notarylaw06.TermPuts', WHERE WHAT IT READS IS OF BULK AT MOST 1048576: true; the input reads as it did. -/
def termPutsUptoRow : OpenClaim := { program := "ytppeaofdohghgaa", sum := "3a97f44eacf874a7b8e7542125a43eaa4036ee76bea83fed0eba2295a9797e95", func := "notary/notarylaw06.TermPuts", spec := "termPuts", unfollowed := true, recurses := true, loops := true, apart := false, narrowed := true }
def TermPutsUptoSaid : Prop := termPutsUptoRow.holds Try.pinned (OpenSpec.upto termPutsSpec)

/-- 'notarylaw06.TermSames', WHERE WHAT IT READS IS OF BULK AT MOST 1048576: true; the input reads as it did. -/
def termSamesUptoRow : OpenClaim := { program := "ytppeaofdohghgaa", sum := "3a97f44eacf874a7b8e7542125a43eaa4036ee76bea83fed0eba2295a9797e95", func := "notary/notarylaw06.TermSames", spec := "termSames", unfollowed := true, recurses := true, loops := true, apart := false, narrowed := true }
def TermSamesUptoSaid : Prop := termSamesUptoRow.holds Try.pinned (OpenSpec.upto termSamesSpec)

/-- 'notarylaw18.FaceNames', WHERE WHAT IT READS IS OF BULK AT MOST 1048576: true; the input reads as it did. -/
def faceNamesUptoRow : OpenClaim := { program := "ytppeaofdohghgaa", sum := "3a97f44eacf874a7b8e7542125a43eaa4036ee76bea83fed0eba2295a9797e95", func := "notary/notarylaw18.FaceNames", spec := "faceNames", unfollowed := true, recurses := true, loops := true, apart := false, narrowed := true }
def FaceNamesUptoSaid : Prop := faceNamesUptoRow.holds Try.pinned (OpenSpec.upto faceNamesSpec)

/-- 'notarylaw18.FaceBack', WHERE WHAT IT READS IS OF BULK AT MOST 1048576: true; the input reads as it did. -/
def faceBackUptoRow : OpenClaim := { program := "ytppeaofdohghgaa", sum := "3a97f44eacf874a7b8e7542125a43eaa4036ee76bea83fed0eba2295a9797e95", func := "notary/notarylaw18.FaceBack", spec := "faceBack", unfollowed := true, recurses := true, loops := true, apart := false, narrowed := true }
def FaceBackUptoSaid : Prop := faceBackUptoRow.holds Try.pinned (OpenSpec.upto faceBackSpec)

end Rows
end Go.Proofs.Ytppeaofdohghgaa
