/-
  No cell of these rows narrows 'for every input' (looked for: loops, veiled, ifaces, maps, wideKeys, modest, calm, conditions, laid).
  DERIVED. THE GIVEN ROWS OF THIS SEAT. 4 by the template 'for every input the law returns true; each argument reads behind the call as it read before'; 0 by the template 'total and deterministic' (their statements: YtnkkgeglnmggpaaTotals.lean).
  GIVEN WITH THE SEED: the statements are not yours to turn. If you find one false, say at which input.
  Laid BY PROGRAM, IN A SANDBOX (cutbox-rows.mjs): the forced cells as the released guide's own fill.sh prints them over the translation a79a2ec0cf370f72… (all of the seat's roots in one cut). By AI agents, Wed Nov 11 2026. No macro, syntax, notation, axiom, sorry.
-/
import Derived.Test.YtnkkgeglnmggpaaChecked
import GoSem.Claim
import GoSem.ClaimJoined
import GoSem.ClaimMapViews
import Derived.JoinedTies
import Derived.KernelRfl
namespace Go.Proofs.Ytnkkgeglnmggpaa
/- THE CELL 'sum', in the pinned program and in every row, IS THE sha256 OF THE DUMP (.gsa) THAT YtnkkgeglnmggpaaProg.lean LOADS. Nothing in Lean hashes anything: it is a label: what it is worth is what the hold of that sum in a sandbox is worth. -/
noncomputable def Try.pinned : Pinned := { name := "ytnkkgeglnmggpaa", sum := "a79a2ec0cf370f72bd9825de0d3393e47fa68302ad97757df0fa492a14ea58d0", checked := Try.checked }
namespace Rows
def none {H : Type} : Left H := { results := [], args := [] }

/-- 'notarylaw47.ChainReads': WHATEVER THE INPUT: true; the input reads as it did. -/
def chainReadsSpec : ChangeSpec := { name := "chainReads", fn := fun _ => fun
  | [d1, d2, d3] => { results := [.lit (.bool true)], args := [d1, d2, d3] }
  | _ => none }
def chainReadsRow : OpenClaim := { program := "ytnkkgeglnmggpaa", sum := "a79a2ec0cf370f72bd9825de0d3393e47fa68302ad97757df0fa492a14ea58d0", func := "notary/notarylaw47.ChainReads", spec := "chainReads", unfollowed := true, recurses := true, apart := false }
def ChainReadsSaid : Prop := chainReadsRow.holds Try.pinned (OpenSpec.ofChange chainReadsSpec)

/-- ITS FALSE NEIGHBOUR: 'it returns false'. Refute it at one input. -/
def chainReadsWrong : ChangeSpec := { name := "chainReads", fn := fun _ => fun
  | [d1, d2, d3] => { results := [.lit (.bool false)], args := [d1, d2, d3] }
  | _ => none }
def ChainReadsWrongFalsely : Prop := chainReadsRow.holds Try.pinned (OpenSpec.ofChange chainReadsWrong)

/-- 'notarylaw47.ChainClashes': WHATEVER THE INPUT: true; the input reads as it did. -/
def chainClashesSpec : ChangeSpec := { name := "chainClashes", fn := fun _ => fun
  | [d1, d2, d3] => { results := [.lit (.bool true)], args := [d1, d2, d3] }
  | _ => none }
def chainClashesRow : OpenClaim := { program := "ytnkkgeglnmggpaa", sum := "a79a2ec0cf370f72bd9825de0d3393e47fa68302ad97757df0fa492a14ea58d0", func := "notary/notarylaw47.ChainClashes", spec := "chainClashes", unfollowed := true, recurses := true, apart := false }
def ChainClashesSaid : Prop := chainClashesRow.holds Try.pinned (OpenSpec.ofChange chainClashesSpec)

/-- ITS FALSE NEIGHBOUR: 'it returns false'. Refute it at one input. -/
def chainClashesWrong : ChangeSpec := { name := "chainClashes", fn := fun _ => fun
  | [d1, d2, d3] => { results := [.lit (.bool false)], args := [d1, d2, d3] }
  | _ => none }
def ChainClashesWrongFalsely : Prop := chainClashesRow.holds Try.pinned (OpenSpec.ofChange chainClashesWrong)

/-- 'notarylaw47.ChainParts': WHATEVER THE INPUT: true; the input reads as it did. -/
def chainPartsSpec : ChangeSpec := { name := "chainParts", fn := fun _ => fun
  | [d1, d2, d3] => { results := [.lit (.bool true)], args := [d1, d2, d3] }
  | _ => none }
def chainPartsRow : OpenClaim := { program := "ytnkkgeglnmggpaa", sum := "a79a2ec0cf370f72bd9825de0d3393e47fa68302ad97757df0fa492a14ea58d0", func := "notary/notarylaw47.ChainParts", spec := "chainParts", unfollowed := true, recurses := true, apart := false }
def ChainPartsSaid : Prop := chainPartsRow.holds Try.pinned (OpenSpec.ofChange chainPartsSpec)

/-- ITS FALSE NEIGHBOUR: 'it returns false'. Refute it at one input. -/
def chainPartsWrong : ChangeSpec := { name := "chainParts", fn := fun _ => fun
  | [d1, d2, d3] => { results := [.lit (.bool false)], args := [d1, d2, d3] }
  | _ => none }
def ChainPartsWrongFalsely : Prop := chainPartsRow.holds Try.pinned (OpenSpec.ofChange chainPartsWrong)

/-- 'notarylaw47.ChainBuilds': WHATEVER THE INPUT: true; the input reads as it did. -/
def chainBuildsSpec : ChangeSpec := { name := "chainBuilds", fn := fun _ => fun
  | [d1, d2, d3] => { results := [.lit (.bool true)], args := [d1, d2, d3] }
  | _ => none }
def chainBuildsRow : OpenClaim := { program := "ytnkkgeglnmggpaa", sum := "a79a2ec0cf370f72bd9825de0d3393e47fa68302ad97757df0fa492a14ea58d0", func := "notary/notarylaw47.ChainBuilds", spec := "chainBuilds", unfollowed := true, recurses := true, apart := false }
def ChainBuildsSaid : Prop := chainBuildsRow.holds Try.pinned (OpenSpec.ofChange chainBuildsSpec)

/-- ITS FALSE NEIGHBOUR: 'it returns false'. Refute it at one input. -/
def chainBuildsWrong : ChangeSpec := { name := "chainBuilds", fn := fun _ => fun
  | [d1, d2, d3] => { results := [.lit (.bool false)], args := [d1, d2, d3] }
  | _ => none }
def ChainBuildsWrongFalsely : Prop := chainBuildsRow.holds Try.pinned (OpenSpec.ofChange chainBuildsWrong)

/- THE SECOND FORM. 'bulk': how many values and letters a reading holds, each counted each time it is reached (what is shared counts as often as it is met; a slice's spare places count too). A statement '..UptoSaid' is the law's where the arguments, and the package variables that the reading takes, are together of bulk at most 1048576: NARROWER than '..Said'. Prove '..Said' where nothing that the law and all that it calls make is longer than what came in: it says more and counts as full. Else prove '..UptoSaid'. A law counts once. -/
mutual
def uptoBulk {H : Type} : DataW H → Nat
  | .lit (.string bytes) => bytes.length + 1
  | .lit _ => 1
  | .nil => 1
  | .ptr d => uptoBulk d + 1
  | .slice elems spare => uptoBulkAll elems + uptoBulkAll spare + 1
  | .agg parts => uptoBulkAll parts + 1
  | .iface _ d => uptoBulk d + 1
  | .map entries => uptoBulkEntries entries + 1
  | .held _ => 1
def uptoBulkAll {H : Type} : List (DataW H) → Nat
  | [] => 0
  | d :: r => uptoBulk d + uptoBulkAll r
def uptoBulkEntries {H : Type} : List (Lit × DataW H) → Nat
  | [] => 0
  | x :: r => uptoBulkEntry x + uptoBulkEntries r
def uptoBulkEntry {H : Type} : Lit × DataW H → Nat
  | (.string bytes, d) => bytes.length + uptoBulk d + 1
  | (_, d) => uptoBulk d + 1
 end
def uptoSmall : (H : Type) → List (DataW H) → Bool := fun _ ds => decide (uptoBulkAll ds ≤ 1048576)
def OpenSpec.upto (s : _root_.Go.ChangeSpec) : _root_.Go.OpenSpec := { _root_.Go.OpenSpec.ofChange s with cond := some uptoSmall }

/-- 'notarylaw47.ChainReads', WHERE WHAT IT READS IS OF BULK AT MOST 1048576: true; the input reads as it did. -/
def chainReadsUptoRow : OpenClaim := { program := "ytnkkgeglnmggpaa", sum := "a79a2ec0cf370f72bd9825de0d3393e47fa68302ad97757df0fa492a14ea58d0", func := "notary/notarylaw47.ChainReads", spec := "chainReads", unfollowed := true, recurses := true, apart := false, narrowed := true }
def ChainReadsUptoSaid : Prop := chainReadsUptoRow.holds Try.pinned (OpenSpec.upto chainReadsSpec)

/-- 'notarylaw47.ChainClashes', WHERE WHAT IT READS IS OF BULK AT MOST 1048576: true; the input reads as it did. -/
def chainClashesUptoRow : OpenClaim := { program := "ytnkkgeglnmggpaa", sum := "a79a2ec0cf370f72bd9825de0d3393e47fa68302ad97757df0fa492a14ea58d0", func := "notary/notarylaw47.ChainClashes", spec := "chainClashes", unfollowed := true, recurses := true, apart := false, narrowed := true }
def ChainClashesUptoSaid : Prop := chainClashesUptoRow.holds Try.pinned (OpenSpec.upto chainClashesSpec)

/-- 'notarylaw47.ChainParts', WHERE WHAT IT READS IS OF BULK AT MOST 1048576: true; the input reads as it did. -/
def chainPartsUptoRow : OpenClaim := { program := "ytnkkgeglnmggpaa", sum := "a79a2ec0cf370f72bd9825de0d3393e47fa68302ad97757df0fa492a14ea58d0", func := "notary/notarylaw47.ChainParts", spec := "chainParts", unfollowed := true, recurses := true, apart := false, narrowed := true }
def ChainPartsUptoSaid : Prop := chainPartsUptoRow.holds Try.pinned (OpenSpec.upto chainPartsSpec)

/-- 'notarylaw47.ChainBuilds', WHERE WHAT IT READS IS OF BULK AT MOST 1048576: true; the input reads as it did. -/
def chainBuildsUptoRow : OpenClaim := { program := "ytnkkgeglnmggpaa", sum := "a79a2ec0cf370f72bd9825de0d3393e47fa68302ad97757df0fa492a14ea58d0", func := "notary/notarylaw47.ChainBuilds", spec := "chainBuilds", unfollowed := true, recurses := true, apart := false, narrowed := true }
def ChainBuildsUptoSaid : Prop := chainBuildsUptoRow.holds Try.pinned (OpenSpec.upto chainBuildsSpec)

end Rows
end Go.Proofs.Ytnkkgeglnmggpaa
