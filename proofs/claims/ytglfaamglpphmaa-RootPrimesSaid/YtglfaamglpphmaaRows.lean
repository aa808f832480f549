/-
  No cell of these rows narrows 'for every input' (looked for: loops, veiled, ifaces, maps, wideKeys, modest, calm, conditions, laid).
  DERIVED. THE GIVEN ROWS OF THIS SEAT. 6 by the template 'for every input the law returns true; each argument reads behind the call as it read before'; 0 by the template 'total and deterministic' (their statements: YtglfaamglpphmaaTotals.lean).
  GIVEN WITH THE SEED: the statements are not yours to turn. If you find one false, say at which input.
  Laid BY PROGRAM, IN A SANDBOX (cutbox-rows.mjs): the forced cells as the released guide's own fill.sh prints them over the translation 6815f5a7c791e856… (all of the seat's roots in one cut). By AI agents, Wed Nov 11 2026. No macro, syntax, notation, axiom, sorry.
-/
import Derived.Test.YtglfaamglpphmaaChecked
import GoSem.Claim
import GoSem.ClaimJoined
import GoSem.ClaimMapViews
import Derived.JoinedTies
import Derived.KernelRfl
namespace Go.Proofs.Ytglfaamglpphmaa
/- THE CELL 'sum', in the pinned program and in every row, IS THE sha256 OF THE DUMP (.gsa) THAT YtglfaamglpphmaaProg.lean LOADS. Nothing in Lean hashes anything: it is a label: what it is worth is what the hold of that sum in a sandbox is worth. -/
noncomputable def Try.pinned : Pinned := { name := "ytglfaamglpphmaa", sum := "6815f5a7c791e8565cc5cf051bda8a165552e19a6cbf07f368d4aa75272449f3", checked := Try.checked }
namespace Rows
def none {H : Type} : Left H := { results := [], args := [] }

/-- 'notarylaw01.VarintZigs': WHATEVER THE INPUT: true; the input reads as it did. -/
def varintZigsSpec : ChangeSpec := { name := "varintZigs", fn := fun _ => fun
  | [d1, d2] => { results := [.lit (.bool true)], args := [d1, d2] }
  | _ => none }
def varintZigsRow : OpenClaim := { program := "ytglfaamglpphmaa", sum := "6815f5a7c791e8565cc5cf051bda8a165552e19a6cbf07f368d4aa75272449f3", func := "notary/notarylaw01.VarintZigs", spec := "varintZigs", apart := false }
def VarintZigsSaid : Prop := varintZigsRow.holds Try.pinned (OpenSpec.ofChange varintZigsSpec)

/-- ITS FALSE NEIGHBOUR: 'it returns false'. Refute it at one input. -/
def varintZigsWrong : ChangeSpec := { name := "varintZigs", fn := fun _ => fun
  | [d1, d2] => { results := [.lit (.bool false)], args := [d1, d2] }
  | _ => none }
def VarintZigsWrongFalsely : Prop := varintZigsRow.holds Try.pinned (OpenSpec.ofChange varintZigsWrong)

/-- 'notarylaw01.VarintBack': WHATEVER THE INPUT: true; the input reads as it did. -/
def varintBackSpec : ChangeSpec := { name := "varintBack", fn := fun _ => fun
  | [d1, d2, d3] => { results := [.lit (.bool true)], args := [d1, d2, d3] }
  | _ => none }
def varintBackRow : OpenClaim := { program := "ytglfaamglpphmaa", sum := "6815f5a7c791e8565cc5cf051bda8a165552e19a6cbf07f368d4aa75272449f3", func := "notary/notarylaw01.VarintBack", spec := "varintBack", apart := false }
def VarintBackSaid : Prop := varintBackRow.holds Try.pinned (OpenSpec.ofChange varintBackSpec)

/-- ITS FALSE NEIGHBOUR: 'it returns false'. Refute it at one input. -/
def varintBackWrong : ChangeSpec := { name := "varintBack", fn := fun _ => fun
  | [d1, d2, d3] => { results := [.lit (.bool false)], args := [d1, d2, d3] }
  | _ => none }
def VarintBackWrongFalsely : Prop := varintBackRow.holds Try.pinned (OpenSpec.ofChange varintBackWrong)

/-- 'notarylaw01.VarintReads': WHATEVER THE INPUT: true; the input reads as it did. -/
def varintReadsSpec : ChangeSpec := { name := "varintReads", fn := fun _ => fun
  | [d1, d2] => { results := [.lit (.bool true)], args := [d1, d2] }
  | _ => none }
def varintReadsRow : OpenClaim := { program := "ytglfaamglpphmaa", sum := "6815f5a7c791e8565cc5cf051bda8a165552e19a6cbf07f368d4aa75272449f3", func := "notary/notarylaw01.VarintReads", spec := "varintReads", apart := false }
def VarintReadsSaid : Prop := varintReadsRow.holds Try.pinned (OpenSpec.ofChange varintReadsSpec)

/-- ITS FALSE NEIGHBOUR: 'it returns false'. Refute it at one input. -/
def varintReadsWrong : ChangeSpec := { name := "varintReads", fn := fun _ => fun
  | [d1, d2] => { results := [.lit (.bool false)], args := [d1, d2] }
  | _ => none }
def VarintReadsWrongFalsely : Prop := varintReadsRow.holds Try.pinned (OpenSpec.ofChange varintReadsWrong)

/-- 'notarylaw02.RootSquares': WHATEVER THE INPUT: true; the input reads as it did. -/
def rootSquaresSpec : ChangeSpec := { name := "rootSquares", fn := fun _ => fun
  | [d] => { results := [.lit (.bool true)], args := [d] }
  | _ => none }
def rootSquaresRow : OpenClaim := { program := "ytglfaamglpphmaa", sum := "6815f5a7c791e8565cc5cf051bda8a165552e19a6cbf07f368d4aa75272449f3", func := "notary/notarylaw02.RootSquares", spec := "rootSquares", unfollowed := true, recurses := true, apart := false }
def RootSquaresSaid : Prop := rootSquaresRow.holds Try.pinned (OpenSpec.ofChange rootSquaresSpec)

/-- ITS FALSE NEIGHBOUR: 'it returns false'. Refute it at one input. -/
def rootSquaresWrong : ChangeSpec := { name := "rootSquares", fn := fun _ => fun
  | [d] => { results := [.lit (.bool false)], args := [d] }
  | _ => none }
def RootSquaresWrongFalsely : Prop := rootSquaresRow.holds Try.pinned (OpenSpec.ofChange rootSquaresWrong)

/-- 'notarylaw02.RootCubes': WHATEVER THE INPUT: true; the input reads as it did. -/
def rootCubesSpec : ChangeSpec := { name := "rootCubes", fn := fun _ => fun
  | [d] => { results := [.lit (.bool true)], args := [d] }
  | _ => none }
def rootCubesRow : OpenClaim := { program := "ytglfaamglpphmaa", sum := "6815f5a7c791e8565cc5cf051bda8a165552e19a6cbf07f368d4aa75272449f3", func := "notary/notarylaw02.RootCubes", spec := "rootCubes", unfollowed := true, recurses := true, apart := false }
def RootCubesSaid : Prop := rootCubesRow.holds Try.pinned (OpenSpec.ofChange rootCubesSpec)

/-- ITS FALSE NEIGHBOUR: 'it returns false'. Refute it at one input. -/
def rootCubesWrong : ChangeSpec := { name := "rootCubes", fn := fun _ => fun
  | [d] => { results := [.lit (.bool false)], args := [d] }
  | _ => none }
def RootCubesWrongFalsely : Prop := rootCubesRow.holds Try.pinned (OpenSpec.ofChange rootCubesWrong)

/-- 'notarylaw02.RootPrimes': WHATEVER THE INPUT: true; the input reads as it did. -/
def rootPrimesSpec : ChangeSpec := { name := "rootPrimes", fn := fun _ => fun
  | [d1, d2, d3] => { results := [.lit (.bool true)], args := [d1, d2, d3] }
  | _ => none }
def rootPrimesRow : OpenClaim := { program := "ytglfaamglpphmaa", sum := "6815f5a7c791e8565cc5cf051bda8a165552e19a6cbf07f368d4aa75272449f3", func := "notary/notarylaw02.RootPrimes", spec := "rootPrimes", unfollowed := true, recurses := true, apart := false }
def RootPrimesSaid : Prop := rootPrimesRow.holds Try.pinned (OpenSpec.ofChange rootPrimesSpec)

/-- ITS FALSE NEIGHBOUR: 'it returns false'. Refute it at one input. -/
def rootPrimesWrong : ChangeSpec := { name := "rootPrimes", fn := fun _ => fun
  | [d1, d2, d3] => { results := [.lit (.bool false)], args := [d1, d2, d3] }
  | _ => none }
def RootPrimesWrongFalsely : Prop := rootPrimesRow.holds Try.pinned (OpenSpec.ofChange rootPrimesWrong)

/- THE SECOND FORM. 'bulk': how many values and letters a reading holds, each counted each time it is reached (what is shared counts as often as it is met; a slice's spare places count too). A statement '..UptoSaid' is the law's where the arguments, and the package variables that the reading takes, are together of bulk at most 1048576: NARROWER than '..Said'. Prove '..Said' where nothing that the law and all that it calls make is longer than what came in: it says more and counts as full. Else prove '..UptoSaid'. A law counts once. -/
mutual
def uptoBulk {H : Type} : DataW H → Nat
  | .lit (.string bytes) => bytes.length + 1
  | .lit _ => 1
  | .nil => 1
  | .ptr d => uptoBulk d + 1
  | .slice elems spare => uptoBulkAll elems + uptoBulkAll spare + 1
  | .agg parts => uptoBulkAll parts + 1
  | .iface _ d => uptoBulk d + 1
  | .map entries => uptoBulkEntries entries + 1
  | .held _ => 1
def uptoBulkAll {H : Type} : List (DataW H) → Nat
  | [] => 0
  | d :: r => uptoBulk d + uptoBulkAll r
def uptoBulkEntries {H : Type} : List (Lit × DataW H) → Nat
  | [] => 0
  | x :: r => uptoBulkEntry x + uptoBulkEntries r
def uptoBulkEntry {H : Type} : Lit × DataW H → Nat
  | (.string bytes, d) => bytes.length + uptoBulk d + 1
  | (_, d) => uptoBulk d + 1
 end
def uptoSmall : (H : Type) → List (DataW H) → Bool := fun _ ds => decide (uptoBulkAll ds ≤ 1048576)
def OpenSpec.upto (s : _root_.Go.ChangeSpec) : _root_.Go.OpenSpec := { _root_.Go.OpenSpec.ofChange s with cond := some uptoSmall }

/-- 'notarylaw01.VarintZigs', WHERE WHAT IT READS IS OF BULK AT MOST 1048576: true; the input reads as it did. -/
def varintZigsUptoRow : OpenClaim := { program := "ytglfaamglpphmaa", sum := "6815f5a7c791e8565cc5cf051bda8a165552e19a6cbf07f368d4aa75272449f3", func := "notary/notarylaw01.VarintZigs", spec := "varintZigs", apart := false, narrowed := true }
def VarintZigsUptoSaid : Prop := varintZigsUptoRow.holds Try.pinned (OpenSpec.upto varintZigsSpec)

/-- 'notarylaw01.VarintBack', WHERE WHAT IT READS IS OF BULK AT MOST 1048576: true; the input reads as it did. -/
def varintBackUptoRow : OpenClaim := { program := "ytglfaamglpphmaa", sum := "6815f5a7c791e8565cc5cf051bda8a165552e19a6cbf07f368d4aa75272449f3", func := "notary/notarylaw01.VarintBack", spec := "varintBack", apart := false, narrowed := true }
def VarintBackUptoSaid : Prop := varintBackUptoRow.holds Try.pinned (OpenSpec.upto varintBackSpec)

/-- 'notarylaw01.VarintReads', WHERE WHAT IT READS IS OF BULK AT MOST 1048576: true; the input reads as it did. -/
def varintReadsUptoRow : OpenClaim := { program := "ytglfaamglpphmaa", sum := "6815f5a7c791e8565cc5cf051bda8a165552e19a6cbf07f368d4aa75272449f3", func := "notary/notarylaw01.VarintReads", spec := "varintReads", apart := false, narrowed := true }
def VarintReadsUptoSaid : Prop := varintReadsUptoRow.holds Try.pinned (OpenSpec.upto varintReadsSpec)

/-- 'notarylaw02.RootSquares', WHERE WHAT IT READS IS OF BULK AT MOST 1048576: true; the input reads as it did. -/
def rootSquaresUptoRow : OpenClaim := { program := "ytglfaamglpphmaa", sum := "6815f5a7c791e8565cc5cf051bda8a165552e19a6cbf07f368d4aa75272449f3", func := "notary/notarylaw02.RootSquares", spec := "rootSquares", unfollowed := true, recurses := true, apart := false, narrowed := true }
def RootSquaresUptoSaid : Prop := rootSquaresUptoRow.holds Try.pinned (OpenSpec.upto rootSquaresSpec)

/-- 'notarylaw02.RootCubes', WHERE WHAT IT READS IS OF BULK AT MOST 1048576: true; the input reads as it did. -/
def rootCubesUptoRow : OpenClaim := { program := "ytglfaamglpphmaa", sum := "6815f5a7c791e8565cc5cf051bda8a165552e19a6cbf07f368d4aa75272449f3", func := "notary/notarylaw02.RootCubes", spec := "rootCubes", unfollowed := true, recurses := true, apart := false, narrowed := true }
def RootCubesUptoSaid : Prop := rootCubesUptoRow.holds Try.pinned (OpenSpec.upto rootCubesSpec)

/-- 'notarylaw02.RootPrimes', WHERE WHAT IT READS IS OF BULK AT MOST 1048576: true; the input reads as it did. -/
def rootPrimesUptoRow : OpenClaim := { program := "ytglfaamglpphmaa", sum := "6815f5a7c791e8565cc5cf051bda8a165552e19a6cbf07f368d4aa75272449f3", func := "notary/notarylaw02.RootPrimes", spec := "rootPrimes", unfollowed := true, recurses := true, apart := false, narrowed := true }
def RootPrimesUptoSaid : Prop := rootPrimesUptoRow.holds Try.pinned (OpenSpec.upto rootPrimesSpec)

end Rows
end Go.Proofs.Ytglfaamglpphmaa
