/-
  NARROWER THAN 'FOR EVERY INPUT', by the rows' own cells (each row's printed sentence says how): CodeTerms: loops · CodeDerivs: loops · CertBack: loops.
  DERIVED. THE GIVEN ROWS OF THIS SEAT. 5 by the template 'for every input the law returns true; each argument reads behind the call as it read before'; 0 by the template 'total and deterministic' (their statements: YtiamcmjdoobaeaaTotals.lean).
  GIVEN WITH THE SEED: the statements are not yours to turn. If you find one false, say at which input.
  Laid BY PROGRAM, IN A SANDBOX (cutbox-rows.mjs): the forced cells as the released guide's own fill.sh prints them over the translation fd99fbfa06896379… (all of the seat's roots in one cut). By AI agents, Wed Nov 11 2026. No macro, syntax, notation, axiom, sorry.
-/
import Derived.Test.YtiamcmjdoobaeaaChecked
import GoSem.Claim
import GoSem.ClaimJoined
import GoSem.ClaimMapViews
import Derived.JoinedTies
import Derived.KernelRfl
namespace Go.Proofs.Ytiamcmjdoobaeaa
/- THE CELL 'sum', in the pinned program and in every row, IS THE sha256 OF THE DUMP (.gsa) THAT YtiamcmjdoobaeaaProg.lean LOADS. Nothing in Lean hashes anything: it is a label: what it is worth is what the hold of that sum in a sandbox is worth. -/
noncomputable def Try.pinned : Pinned := { name := "ytiamcmjdoobaeaa", sum := "fd99fbfa0689637970103553613f2319e6c28ec49ba17d045d7e85209fc52e2f", checked := Try.checked }
namespace Rows
def none {H : Type} : Left H := { results := [], args := [] }

/-- 'notarylaw36.CodeTerms': WHATEVER THE INPUT: true; the input reads as it did. -/
def codeTermsSpec : ChangeSpec := { name := "codeTerms", fn := fun _ => fun
  | [d1, d2, d3] => { results := [.lit (.bool true)], args := [d1, d2, d3] }
  | _ => none }
def codeTermsRow : OpenClaim := { program := "ytiamcmjdoobaeaa", sum := "fd99fbfa0689637970103553613f2319e6c28ec49ba17d045d7e85209fc52e2f", func := "notary/notarylaw36.CodeTerms", spec := "codeTerms", unfollowed := true, recurses := true, loops := true, apart := false }
def CodeTermsSaid : Prop := codeTermsRow.holds Try.pinned (OpenSpec.ofChange codeTermsSpec)

/-- ITS FALSE NEIGHBOUR: 'it returns false'. Refute it at one input. -/
def codeTermsWrong : ChangeSpec := { name := "codeTerms", fn := fun _ => fun
  | [d1, d2, d3] => { results := [.lit (.bool false)], args := [d1, d2, d3] }
  | _ => none }
def CodeTermsWrongFalsely : Prop := codeTermsRow.holds Try.pinned (OpenSpec.ofChange codeTermsWrong)

/-- 'notarylaw36.CodeDerivs': WHATEVER THE INPUT: true; the input reads as it did. -/
def codeDerivsSpec : ChangeSpec := { name := "codeDerivs", fn := fun _ => fun
  | [d1, d2, d3] => { results := [.lit (.bool true)], args := [d1, d2, d3] }
  | _ => none }
def codeDerivsRow : OpenClaim := { program := "ytiamcmjdoobaeaa", sum := "fd99fbfa0689637970103553613f2319e6c28ec49ba17d045d7e85209fc52e2f", func := "notary/notarylaw36.CodeDerivs", spec := "codeDerivs", unfollowed := true, recurses := true, loops := true, apart := false }
def CodeDerivsSaid : Prop := codeDerivsRow.holds Try.pinned (OpenSpec.ofChange codeDerivsSpec)

/-- ITS FALSE NEIGHBOUR: 'it returns false'. Refute it at one input. -/
def codeDerivsWrong : ChangeSpec := { name := "codeDerivs", fn := fun _ => fun
  | [d1, d2, d3] => { results := [.lit (.bool false)], args := [d1, d2, d3] }
  | _ => none }
def CodeDerivsWrongFalsely : Prop := codeDerivsRow.holds Try.pinned (OpenSpec.ofChange codeDerivsWrong)

/-- 'notarylaw36.CodeReads': WHATEVER THE INPUT: true; the input reads as it did. -/
def codeReadsSpec : ChangeSpec := { name := "codeReads", fn := fun _ => fun
  | [d1, d2] => { results := [.lit (.bool true)], args := [d1, d2] }
  | _ => none }
def codeReadsRow : OpenClaim := { program := "ytiamcmjdoobaeaa", sum := "fd99fbfa0689637970103553613f2319e6c28ec49ba17d045d7e85209fc52e2f", func := "notary/notarylaw36.CodeReads", spec := "codeReads", unfollowed := true, recurses := true, apart := false }
def CodeReadsSaid : Prop := codeReadsRow.holds Try.pinned (OpenSpec.ofChange codeReadsSpec)

/-- ITS FALSE NEIGHBOUR: 'it returns false'. Refute it at one input. -/
def codeReadsWrong : ChangeSpec := { name := "codeReads", fn := fun _ => fun
  | [d1, d2] => { results := [.lit (.bool false)], args := [d1, d2] }
  | _ => none }
def CodeReadsWrongFalsely : Prop := codeReadsRow.holds Try.pinned (OpenSpec.ofChange codeReadsWrong)

/-- 'notarylaw37.CertBack': WHATEVER THE INPUT: true; the input reads as it did. -/
def certBackSpec : ChangeSpec := { name := "certBack", fn := fun _ => fun
  | [d] => { results := [.lit (.bool true)], args := [d] }
  | _ => none }
def certBackRow : OpenClaim := { program := "ytiamcmjdoobaeaa", sum := "fd99fbfa0689637970103553613f2319e6c28ec49ba17d045d7e85209fc52e2f", func := "notary/notarylaw37.CertBack", spec := "certBack", unfollowed := true, recurses := true, loops := true, apart := false }
def CertBackSaid : Prop := certBackRow.holds Try.pinned (OpenSpec.ofChange certBackSpec)

/-- ITS FALSE NEIGHBOUR: 'it returns false'. Refute it at one input. -/
def certBackWrong : ChangeSpec := { name := "certBack", fn := fun _ => fun
  | [d] => { results := [.lit (.bool false)], args := [d] }
  | _ => none }
def CertBackWrongFalsely : Prop := certBackRow.holds Try.pinned (OpenSpec.ofChange certBackWrong)

/-- 'notarylaw37.CertReads': WHATEVER THE INPUT: true; the input reads as it did. -/
def certReadsSpec : ChangeSpec := { name := "certReads", fn := fun _ => fun
  | [d] => { results := [.lit (.bool true)], args := [d] }
  | _ => none }
def certReadsRow : OpenClaim := { program := "ytiamcmjdoobaeaa", sum := "fd99fbfa0689637970103553613f2319e6c28ec49ba17d045d7e85209fc52e2f", func := "notary/notarylaw37.CertReads", spec := "certReads", unfollowed := true, recurses := true, apart := false }
def CertReadsSaid : Prop := certReadsRow.holds Try.pinned (OpenSpec.ofChange certReadsSpec)

/-- ITS FALSE NEIGHBOUR: 'it returns false'. Refute it at one input. -/
def certReadsWrong : ChangeSpec := { name := "certReads", fn := fun _ => fun
  | [d] => { results := [.lit (.bool false)], args := [d] }
  | _ => none }
def CertReadsWrongFalsely : Prop := certReadsRow.holds Try.pinned (OpenSpec.ofChange certReadsWrong)

/- THE SECOND FORM. 'bulk': how many values and letters a reading holds, each counted each time it is reached (what is shared counts as often as it is met; a slice's spare places count too). A statement '..UptoSaid' is the law's where the arguments, and the package variables that the reading takes, are together of bulk at most 1048576: NARROWER than '..Said'. Prove '..Said' where nothing that the law and all that it calls make is longer than what came in: it says more and counts as full. Else prove '..UptoSaid'. A law counts once. -/
mutual
def uptoBulk {H : Type} : DataW H → Nat
  | .lit (.string bytes) => bytes.length + 1
  | .lit _ => 1
  | .nil => 1
  | .ptr d => uptoBulk d + 1
  | .slice elems spare => uptoBulkAll elems + uptoBulkAll spare + 1
  | .agg parts => uptoBulkAll parts + 1
  | .iface _ d => uptoBulk d + 1
  | .map entries => uptoBulkEntries entries + 1
  | .held _ => 1
def uptoBulkAll {H : Type} : List (DataW H) → Nat
  | [] => 0
  | d :: r => uptoBulk d + uptoBulkAll r
def uptoBulkEntries {H : Type} : List (Lit × DataW H) → Nat
  | [] => 0
  | x :: r => uptoBulkEntry x + uptoBulkEntries r
def uptoBulkEntry {H : Type} : Lit × DataW H → Nat
  | (.string bytes, d) => bytes.length + uptoBulk d + 1
  | (_, d) => uptoBulk d + 1
 end
def uptoSmall : (H : Type) → List (DataW H) → Bool := fun _ ds => decide (uptoBulkAll ds ≤ 1048576)
def OpenSpec.upto (s : _root_.Go.ChangeSpec) : _root_.Go.OpenSpec := { _root_.Go.OpenSpec.ofChange s with cond := some uptoSmall }

/-- 'notarylaw36.CodeTerms', WHERE WHAT IT READS IS OF BULK AT MOST 1048576: true; the input reads as it did. -/
def codeTermsUptoRow : OpenClaim := { program := "ytiamcmjdoobaeaa", sum := "fd99fbfa0689637970103553613f2319e6c28ec49ba17d045d7e85209fc52e2f", func := "notary/notarylaw36.CodeTerms", spec := "codeTerms", unfollowed := true, recurses := true, loops := true, apart := false, narrowed := true }
def CodeTermsUptoSaid : Prop := codeTermsUptoRow.holds Try.pinned (OpenSpec.upto codeTermsSpec)

/-- 'notarylaw36.CodeDerivs', WHERE WHAT IT READS IS OF BULK AT MOST 1048576: true; the input reads as it did. -/
def codeDerivsUptoRow : OpenClaim := { program := "ytiamcmjdoobaeaa", sum := "fd99fbfa0689637970103553613f2319e6c28ec49ba17d045d7e85209fc52e2f", func := "notary/notarylaw36.CodeDerivs", spec := "codeDerivs", unfollowed := true, recurses := true, loops := true, apart := false, narrowed := true }
def CodeDerivsUptoSaid : Prop := codeDerivsUptoRow.holds Try.pinned (OpenSpec.upto codeDerivsSpec)

/-- 'notarylaw36.CodeReads', WHERE WHAT IT READS IS OF BULK AT MOST 1048576: true; the input reads as it did. -/
def codeReadsUptoRow : OpenClaim := { program := "ytiamcmjdoobaeaa", sum := "fd99fbfa0689637970103553613f2319e6c28ec49ba17d045d7e85209fc52e2f", func := "notary/notarylaw36.CodeReads", spec := "codeReads", unfollowed := true, recurses := true, apart := false, narrowed := true }
def CodeReadsUptoSaid : Prop := codeReadsUptoRow.holds Try.pinned (OpenSpec.upto codeReadsSpec)

/-- 'notarylaw37.CertBack', WHERE WHAT IT READS IS OF BULK AT MOST 1048576: true; the input reads as it did. -/
def certBackUptoRow : OpenClaim := { program := "ytiamcmjdoobaeaa", sum := "fd99fbfa0689637970103553613f2319e6c28ec49ba17d045d7e85209fc52e2f", func := "notary/notarylaw37.CertBack", spec := "certBack", unfollowed := true, recurses := true, loops := true, apart := false, narrowed := true }
def CertBackUptoSaid : Prop := certBackUptoRow.holds Try.pinned (OpenSpec.upto certBackSpec)

/-- 'notarylaw37.CertReads', WHERE WHAT IT READS IS OF BULK AT MOST 1048576: true; the input reads as it did. -/
def certReadsUptoRow : OpenClaim := { program := "ytiamcmjdoobaeaa", sum := "fd99fbfa0689637970103553613f2319e6c28ec49ba17d045d7e85209fc52e2f", func := "notary/notarylaw37.CertReads", spec := "certReads", unfollowed := true, recurses := true, apart := false, narrowed := true }
def CertReadsUptoSaid : Prop := certReadsUptoRow.holds Try.pinned (OpenSpec.upto certReadsSpec)

end Rows
end Go.Proofs.Ytiamcmjdoobaeaa
