/-
  NARROWER THAN 'FOR EVERY INPUT', by the rows' own cells (each row's printed sentence says how): DeclsBack: loops · DeclsPairs: loops · DeclsMake: loops.
  DERIVED. THE GIVEN ROWS OF THIS SEAT. 3 by the template 'for every input the law returns true; each argument reads behind the call as it read before'; 0 by the template 'total and deterministic' (their statements: YtgjmidpoebnieaaTotals.lean).
  GIVEN WITH THE SEED: the statements are not yours to turn. If you find one false, say at which input.
  Laid BY PROGRAM, IN A SANDBOX (cutbox-rows.mjs): the forced cells as the released guide's own fill.sh prints them over the translation 23c084c0baebb43f… (all of the seat's roots in one cut). By AI agents, Wed Nov 11 2026. No macro, syntax, notation, axiom, sorry.
-/
import Derived.Test.YtgjmidpoebnieaaChecked
import GoSem.Claim
import GoSem.ClaimJoined
import GoSem.ClaimMapViews
import Derived.JoinedTies
import Derived.KernelRfl
namespace Go.Proofs.Ytgjmidpoebnieaa
/- THE CELL 'sum', in the pinned program and in every row, IS THE sha256 OF THE DUMP (.gsa) THAT YtgjmidpoebnieaaProg.lean LOADS. Nothing in Lean hashes anything: it is a label: what it is worth is what the hold of that sum in a sandbox is worth. -/
noncomputable def Try.pinned : Pinned := { name := "ytgjmidpoebnieaa", sum := "23c084c0baebb43fe6e199ffc5d2ed75b00e794fce8a0267e26fbc3e711a8a6a", checked := Try.checked }
namespace Rows
def none {H : Type} : Left H := { results := [], args := [] }

/-- 'notarylaw32.DeclsBack': WHATEVER THE INPUT: true; the input reads as it did. -/
def declsBackSpec : ChangeSpec := { name := "declsBack", fn := fun _ => fun
  | [d1, d2, d3] => { results := [.lit (.bool true)], args := [d1, d2, d3] }
  | _ => none }
def declsBackRow : OpenClaim := { program := "ytgjmidpoebnieaa", sum := "23c084c0baebb43fe6e199ffc5d2ed75b00e794fce8a0267e26fbc3e711a8a6a", func := "notary/notarylaw32.DeclsBack", spec := "declsBack", unfollowed := true, recurses := true, loops := true, apart := false }
def DeclsBackSaid : Prop := declsBackRow.holds Try.pinned (OpenSpec.ofChange declsBackSpec)

/-- ITS FALSE NEIGHBOUR: 'it returns false'. Refute it at one input. -/
def declsBackWrong : ChangeSpec := { name := "declsBack", fn := fun _ => fun
  | [d1, d2, d3] => { results := [.lit (.bool false)], args := [d1, d2, d3] }
  | _ => none }
def DeclsBackWrongFalsely : Prop := declsBackRow.holds Try.pinned (OpenSpec.ofChange declsBackWrong)

/-- 'notarylaw32.DeclsPairs': WHATEVER THE INPUT: true; the input reads as it did. -/
def declsPairsSpec : ChangeSpec := { name := "declsPairs", fn := fun _ => fun
  | [d1, d2, d3] => { results := [.lit (.bool true)], args := [d1, d2, d3] }
  | _ => none }
def declsPairsRow : OpenClaim := { program := "ytgjmidpoebnieaa", sum := "23c084c0baebb43fe6e199ffc5d2ed75b00e794fce8a0267e26fbc3e711a8a6a", func := "notary/notarylaw32.DeclsPairs", spec := "declsPairs", unfollowed := true, recurses := true, loops := true, apart := false }
def DeclsPairsSaid : Prop := declsPairsRow.holds Try.pinned (OpenSpec.ofChange declsPairsSpec)

/-- ITS FALSE NEIGHBOUR: 'it returns false'. Refute it at one input. -/
def declsPairsWrong : ChangeSpec := { name := "declsPairs", fn := fun _ => fun
  | [d1, d2, d3] => { results := [.lit (.bool false)], args := [d1, d2, d3] }
  | _ => none }
def DeclsPairsWrongFalsely : Prop := declsPairsRow.holds Try.pinned (OpenSpec.ofChange declsPairsWrong)

/-- 'notarylaw32.DeclsMake': WHATEVER THE INPUT: true; the input reads as it did. -/
def declsMakeSpec : ChangeSpec := { name := "declsMake", fn := fun _ => fun
  | [d] => { results := [.lit (.bool true)], args := [d] }
  | _ => none }
def declsMakeRow : OpenClaim := { program := "ytgjmidpoebnieaa", sum := "23c084c0baebb43fe6e199ffc5d2ed75b00e794fce8a0267e26fbc3e711a8a6a", func := "notary/notarylaw32.DeclsMake", spec := "declsMake", unfollowed := true, recurses := true, loops := true, apart := false }
def DeclsMakeSaid : Prop := declsMakeRow.holds Try.pinned (OpenSpec.ofChange declsMakeSpec)

/-- ITS FALSE NEIGHBOUR: 'it returns false'. Refute it at one input. -/
def declsMakeWrong : ChangeSpec := { name := "declsMake", fn := fun _ => fun
  | [d] => { results := [.lit (.bool false)], args := [d] }
  | _ => none }
def DeclsMakeWrongFalsely : Prop := declsMakeRow.holds Try.pinned (OpenSpec.ofChange declsMakeWrong)

/- THE SECOND FORM. 'bulk': how many values and letters a reading holds, each counted each time it is reached (what is shared counts as often as it is met; a slice's spare places count too). A statement '..UptoSaid' is the law's where the arguments, and the package variables that the reading takes, are together of bulk at most 1048576: NARROWER than '..Said'. Prove '..Said' where nothing that the law and all that it calls make is longer than what came in: it says more and counts as full. Else prove '..UptoSaid'. A law counts once. -/
mutual
def uptoBulk {H : Type} : DataW H → Nat
  | .lit (.string bytes) => bytes.length + 1
  | .lit _ => 1
  | .nil => 1
  | .ptr d => uptoBulk d + 1
  | .slice elems spare => uptoBulkAll elems + uptoBulkAll spare + 1
  | .agg parts => uptoBulkAll parts + 1
  | .iface _ d => uptoBulk d + 1
  | .map entries => uptoBulkEntries entries + 1
  | .held _ => 1
def uptoBulkAll {H : Type} : List (DataW H) → Nat
  | [] => 0
  | d :: r => uptoBulk d + uptoBulkAll r
def uptoBulkEntries {H : Type} : List (Lit × DataW H) → Nat
  | [] => 0
  | x :: r => uptoBulkEntry x + uptoBulkEntries r
def uptoBulkEntry {H : Type} : Lit × DataW H → Nat
  | (.string bytes, d) => bytes.length + uptoBulk d + 1
  | (_, d) => uptoBulk d + 1
 end
def uptoSmall : (H : Type) → List (DataW H) → Bool := fun _ ds => decide (uptoBulkAll ds ≤ 1048576)
def OpenSpec.upto (s : _root_.Go.ChangeSpec) : _root_.Go.OpenSpec := { _root_.Go.OpenSpec.ofChange s with cond := some uptoSmall }

/-- 'notarylaw32.DeclsBack', WHERE WHAT IT READS IS OF BULK AT MOST 1048576: true; the input reads as it did. -/
def declsBackUptoRow : OpenClaim := { program := "ytgjmidpoebnieaa", sum := "23c084c0baebb43fe6e199ffc5d2ed75b00e794fce8a0267e26fbc3e711a8a6a", func := "notary/notarylaw32.DeclsBack", spec := "declsBack", unfollowed := true, recurses := true, loops := true, apart := false, narrowed := true }
def DeclsBackUptoSaid : Prop := declsBackUptoRow.holds Try.pinned (OpenSpec.upto declsBackSpec)

/-- 'notarylaw32.DeclsPairs', WHERE WHAT IT READS IS OF BULK AT MOST 1048576: true; the input reads as it did. -/
def declsPairsUptoRow : OpenClaim := { program := "ytgjmidpoebnieaa", sum := "23c084c0baebb43fe6e199ffc5d2ed75b00e794fce8a0267e26fbc3e711a8a6a", func := "notary/notarylaw32.DeclsPairs", spec := "declsPairs", unfollowed := true, recurses := true, loops := true, apart := false, narrowed := true }
def DeclsPairsUptoSaid : Prop := declsPairsUptoRow.holds Try.pinned (OpenSpec.upto declsPairsSpec)

/-- 'notarylaw32.DeclsMake', WHERE WHAT IT READS IS OF BULK AT MOST 1048576: true; the input reads as it did. -/
def declsMakeUptoRow : OpenClaim := { program := "ytgjmidpoebnieaa", sum := "23c084c0baebb43fe6e199ffc5d2ed75b00e794fce8a0267e26fbc3e711a8a6a", func := "notary/notarylaw32.DeclsMake", spec := "declsMake", unfollowed := true, recurses := true, loops := true, apart := false, narrowed := true }
def DeclsMakeUptoSaid : Prop := declsMakeUptoRow.holds Try.pinned (OpenSpec.upto declsMakeSpec)

end Rows
end Go.Proofs.Ytgjmidpoebnieaa
