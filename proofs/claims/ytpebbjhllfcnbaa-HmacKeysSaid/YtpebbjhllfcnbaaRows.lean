/-
  No cell of these rows narrows 'for every input' (looked for: loops, veiled, ifaces, maps, wideKeys, modest, calm, conditions, laid).
  DERIVED. THE GIVEN ROWS OF THIS SEAT. 7 by the template 'for every input the law returns true; each argument reads behind the call as it read before'; 0 by the template 'total and deterministic' (their statements: YtpebbjhllfcnbaaTotals.lean).
  GIVEN WITH THE SEED: the statements are not yours to turn. If you find one false, say at which input.
  Laid BY PROGRAM, IN A SANDBOX (cutbox-rows.mjs): the forced cells as the released guide's own fill.sh prints them over the translation c0667031a00c57b9… (all of the seat's roots in one cut). By AI agents, Wed Nov 11 2026. No macro, syntax, notation, axiom, sorry.
-/
import Derived.Test.YtpebbjhllfcnbaaChecked
import GoSem.Claim
import GoSem.ClaimJoined
import GoSem.ClaimMapViews
import Derived.JoinedTies
import Derived.KernelRfl
namespace Go.Proofs.Ytpebbjhllfcnbaa
/- THE CELL 'sum', in the pinned program and in every row, IS THE sha256 OF THE DUMP (.gsa) THAT YtpebbjhllfcnbaaProg.lean LOADS. Nothing in Lean hashes anything: it is a label: what it is worth is what the hold of that sum in a sandbox is worth. -/
noncomputable def Try.pinned : Pinned := { name := "ytpebbjhllfcnbaa", sum := "c0667031a00c57b9ceffa21de395e6d7b1ccc681db0c5e83fc15f636d73a320f", checked := Try.checked }
namespace Rows
def none {H : Type} : Left H := { results := [], args := [] }

/-- 'notarylaw03.ShaTails': WHATEVER THE INPUT: true; the input reads as it did. -/
def shaTailsSpec : ChangeSpec := { name := "shaTails", fn := fun _ => fun
  | [d] => { results := [.lit (.bool true)], args := [d] }
  | _ => none }
def shaTailsRow : OpenClaim := { program := "ytpebbjhllfcnbaa", sum := "c0667031a00c57b9ceffa21de395e6d7b1ccc681db0c5e83fc15f636d73a320f", func := "notary/notarylaw03.ShaTails", spec := "shaTails", apart := false }
def ShaTailsSaid : Prop := shaTailsRow.holds Try.pinned (OpenSpec.ofChange shaTailsSpec)

/-- ITS FALSE NEIGHBOUR: 'it returns false'. Refute it at one input. -/
def shaTailsWrong : ChangeSpec := { name := "shaTails", fn := fun _ => fun
  | [d] => { results := [.lit (.bool false)], args := [d] }
  | _ => none }
def ShaTailsWrongFalsely : Prop := shaTailsRow.holds Try.pinned (OpenSpec.ofChange shaTailsWrong)

/-- 'notarylaw03.ShaBlocks': WHATEVER THE INPUT: true; the input reads as it did. -/
def shaBlocksSpec : ChangeSpec := { name := "shaBlocks", fn := fun _ => fun
  | [d1, d2] => { results := [.lit (.bool true)], args := [d1, d2] }
  | _ => none }
def shaBlocksRow : OpenClaim := { program := "ytpebbjhllfcnbaa", sum := "c0667031a00c57b9ceffa21de395e6d7b1ccc681db0c5e83fc15f636d73a320f", func := "notary/notarylaw03.ShaBlocks", spec := "shaBlocks", unfollowed := true, recurses := true, apart := false }
def ShaBlocksSaid : Prop := shaBlocksRow.holds Try.pinned (OpenSpec.ofChange shaBlocksSpec)

/-- ITS FALSE NEIGHBOUR: 'it returns false'. Refute it at one input. -/
def shaBlocksWrong : ChangeSpec := { name := "shaBlocks", fn := fun _ => fun
  | [d1, d2] => { results := [.lit (.bool false)], args := [d1, d2] }
  | _ => none }
def ShaBlocksWrongFalsely : Prop := shaBlocksRow.holds Try.pinned (OpenSpec.ofChange shaBlocksWrong)

/-- 'notarylaw03.ShaSums': WHATEVER THE INPUT: true; the input reads as it did. -/
def shaSumsSpec : ChangeSpec := { name := "shaSums", fn := fun _ => fun
  | [d] => { results := [.lit (.bool true)], args := [d] }
  | _ => none }
def shaSumsRow : OpenClaim := { program := "ytpebbjhllfcnbaa", sum := "c0667031a00c57b9ceffa21de395e6d7b1ccc681db0c5e83fc15f636d73a320f", func := "notary/notarylaw03.ShaSums", spec := "shaSums", unfollowed := true, recurses := true, apart := false }
def ShaSumsSaid : Prop := shaSumsRow.holds Try.pinned (OpenSpec.ofChange shaSumsSpec)

/-- ITS FALSE NEIGHBOUR: 'it returns false'. Refute it at one input. -/
def shaSumsWrong : ChangeSpec := { name := "shaSums", fn := fun _ => fun
  | [d] => { results := [.lit (.bool false)], args := [d] }
  | _ => none }
def ShaSumsWrongFalsely : Prop := shaSumsRow.holds Try.pinned (OpenSpec.ofChange shaSumsWrong)

/-- 'notarylaw03.ShaGoesOn': WHATEVER THE INPUT: true; the input reads as it did. -/
def shaGoesOnSpec : ChangeSpec := { name := "shaGoesOn", fn := fun _ => fun
  | [d] => { results := [.lit (.bool true)], args := [d] }
  | _ => none }
def shaGoesOnRow : OpenClaim := { program := "ytpebbjhllfcnbaa", sum := "c0667031a00c57b9ceffa21de395e6d7b1ccc681db0c5e83fc15f636d73a320f", func := "notary/notarylaw03.ShaGoesOn", spec := "shaGoesOn", unfollowed := true, recurses := true, apart := false }
def ShaGoesOnSaid : Prop := shaGoesOnRow.holds Try.pinned (OpenSpec.ofChange shaGoesOnSpec)

/-- ITS FALSE NEIGHBOUR: 'it returns false'. Refute it at one input. -/
def shaGoesOnWrong : ChangeSpec := { name := "shaGoesOn", fn := fun _ => fun
  | [d] => { results := [.lit (.bool false)], args := [d] }
  | _ => none }
def ShaGoesOnWrongFalsely : Prop := shaGoesOnRow.holds Try.pinned (OpenSpec.ofChange shaGoesOnWrong)

/-- 'notarylaw04.HmacSame': WHATEVER THE INPUT: true; the input reads as it did. -/
def hmacSameSpec : ChangeSpec := { name := "hmacSame", fn := fun _ => fun
  | [d1, d2] => { results := [.lit (.bool true)], args := [d1, d2] }
  | _ => none }
def hmacSameRow : OpenClaim := { program := "ytpebbjhllfcnbaa", sum := "c0667031a00c57b9ceffa21de395e6d7b1ccc681db0c5e83fc15f636d73a320f", func := "notary/notarylaw04.HmacSame", spec := "hmacSame", apart := false }
def HmacSameSaid : Prop := hmacSameRow.holds Try.pinned (OpenSpec.ofChange hmacSameSpec)

/-- ITS FALSE NEIGHBOUR: 'it returns false'. Refute it at one input. -/
def hmacSameWrong : ChangeSpec := { name := "hmacSame", fn := fun _ => fun
  | [d1, d2] => { results := [.lit (.bool false)], args := [d1, d2] }
  | _ => none }
def HmacSameWrongFalsely : Prop := hmacSameRow.holds Try.pinned (OpenSpec.ofChange hmacSameWrong)

/-- 'notarylaw04.HmacTags': WHATEVER THE INPUT: true; the input reads as it did. -/
def hmacTagsSpec : ChangeSpec := { name := "hmacTags", fn := fun _ => fun
  | [d1, d2] => { results := [.lit (.bool true)], args := [d1, d2] }
  | _ => none }
def hmacTagsRow : OpenClaim := { program := "ytpebbjhllfcnbaa", sum := "c0667031a00c57b9ceffa21de395e6d7b1ccc681db0c5e83fc15f636d73a320f", func := "notary/notarylaw04.HmacTags", spec := "hmacTags", unfollowed := true, recurses := true, apart := false }
def HmacTagsSaid : Prop := hmacTagsRow.holds Try.pinned (OpenSpec.ofChange hmacTagsSpec)

/-- ITS FALSE NEIGHBOUR: 'it returns false'. Refute it at one input. -/
def hmacTagsWrong : ChangeSpec := { name := "hmacTags", fn := fun _ => fun
  | [d1, d2] => { results := [.lit (.bool false)], args := [d1, d2] }
  | _ => none }
def HmacTagsWrongFalsely : Prop := hmacTagsRow.holds Try.pinned (OpenSpec.ofChange hmacTagsWrong)

/-- 'notarylaw04.HmacKeys': WHATEVER THE INPUT: true; the input reads as it did. -/
def hmacKeysSpec : ChangeSpec := { name := "hmacKeys", fn := fun _ => fun
  | [d1, d2] => { results := [.lit (.bool true)], args := [d1, d2] }
  | _ => none }
def hmacKeysRow : OpenClaim := { program := "ytpebbjhllfcnbaa", sum := "c0667031a00c57b9ceffa21de395e6d7b1ccc681db0c5e83fc15f636d73a320f", func := "notary/notarylaw04.HmacKeys", spec := "hmacKeys", unfollowed := true, recurses := true, apart := false }
def HmacKeysSaid : Prop := hmacKeysRow.holds Try.pinned (OpenSpec.ofChange hmacKeysSpec)

/-- ITS FALSE NEIGHBOUR: 'it returns false'. Refute it at one input. -/
def hmacKeysWrong : ChangeSpec := { name := "hmacKeys", fn := fun _ => fun
  | [d1, d2] => { results := [.lit (.bool false)], args := [d1, d2] }
  | _ => none }
def HmacKeysWrongFalsely : Prop := hmacKeysRow.holds Try.pinned (OpenSpec.ofChange hmacKeysWrong)

/- THE SECOND FORM. 'bulk': how many values and letters a reading holds, each counted each time it is reached (what is shared counts as often as it is met; a slice's spare places count too). A statement '..UptoSaid' is the law's where the arguments, and the package variables that the reading takes, are together of bulk at most 1048576: NARROWER than '..Said'. Prove '..Said' where nothing that the law and all that it calls make is longer than what came in: it says more and counts as full. Else prove '..UptoSaid'. A law counts once. -/
mutual
def uptoBulk {H : Type} : DataW H → Nat
  | .lit (.string bytes) => bytes.length + 1
  | .lit _ => 1
  | .nil => 1
  | .ptr d => uptoBulk d + 1
  | .slice elems spare => uptoBulkAll elems + uptoBulkAll spare + 1
  | .agg parts => uptoBulkAll parts + 1
  | .iface _ d => uptoBulk d + 1
  | .map entries => uptoBulkEntries entries + 1
  | .held _ => 1
def uptoBulkAll {H : Type} : List (DataW H) → Nat
  | [] => 0
  | d :: r => uptoBulk d + uptoBulkAll r
def uptoBulkEntries {H : Type} : List (Lit × DataW H) → Nat
  | [] => 0
  | x :: r => uptoBulkEntry x + uptoBulkEntries r
def uptoBulkEntry {H : Type} : Lit × DataW H → Nat
  | (.string bytes, d) => bytes.length + uptoBulk d + 1
  | (_, d) => uptoBulk d + 1
 end
def uptoSmall : (H : Type) → List (DataW H) → Bool := fun _ ds => decide (uptoBulkAll ds ≤ 1048576)
def OpenSpec.upto (s : _root_.Go.ChangeSpec) : _root_.Go.OpenSpec := { _root_.Go.OpenSpec.ofChange s with cond := some uptoSmall }

/-- 'notarylaw03.ShaTails', WHERE WHAT IT READS IS OF BULK AT MOST 1048576: true; the input reads as it did. -/
def shaTailsUptoRow : OpenClaim := { program := "ytpebbjhllfcnbaa", sum := "c0667031a00c57b9ceffa21de395e6d7b1ccc681db0c5e83fc15f636d73a320f", func := "notary/notarylaw03.ShaTails", spec := "shaTails", apart := false, narrowed := true }
def ShaTailsUptoSaid : Prop := shaTailsUptoRow.holds Try.pinned (OpenSpec.upto shaTailsSpec)

/-- 'notarylaw03.ShaBlocks', WHERE WHAT IT READS IS OF BULK AT MOST 1048576: true; the input reads as it did. -/
def shaBlocksUptoRow : OpenClaim := { program := "ytpebbjhllfcnbaa", sum := "c0667031a00c57b9ceffa21de395e6d7b1ccc681db0c5e83fc15f636d73a320f", func := "notary/notarylaw03.ShaBlocks", spec := "shaBlocks", unfollowed := true, recurses := true, apart := false, narrowed := true }
def ShaBlocksUptoSaid : Prop := shaBlocksUptoRow.holds Try.pinned (OpenSpec.upto shaBlocksSpec)

/-- 'notarylaw03.ShaSums', WHERE WHAT IT READS IS OF BULK AT MOST 1048576: true; the input reads as it did. -/
def shaSumsUptoRow : OpenClaim := { program := "ytpebbjhllfcnbaa", sum := "c0667031a00c57b9ceffa21de395e6d7b1ccc681db0c5e83fc15f636d73a320f", func := "notary/notarylaw03.ShaSums", spec := "shaSums", unfollowed := true, recurses := true, apart := false, narrowed := true }
def ShaSumsUptoSaid : Prop := shaSumsUptoRow.holds Try.pinned (OpenSpec.upto shaSumsSpec)

/-- 'notarylaw03.ShaGoesOn', WHERE WHAT IT READS IS OF BULK AT MOST 1048576: true; the input reads as it did. -/
def shaGoesOnUptoRow : OpenClaim := { program := "ytpebbjhllfcnbaa", sum := "c0667031a00c57b9ceffa21de395e6d7b1ccc681db0c5e83fc15f636d73a320f", func := "notary/notarylaw03.ShaGoesOn", spec := "shaGoesOn", unfollowed := true, recurses := true, apart := false, narrowed := true }
def ShaGoesOnUptoSaid : Prop := shaGoesOnUptoRow.holds Try.pinned (OpenSpec.upto shaGoesOnSpec)

/-- 'notarylaw04.HmacSame', WHERE WHAT IT READS IS OF BULK AT MOST 1048576: true; the input reads as it did. -/
def hmacSameUptoRow : OpenClaim := { program := "ytpebbjhllfcnbaa", sum := "c0667031a00c57b9ceffa21de395e6d7b1ccc681db0c5e83fc15f636d73a320f", func := "notary/notarylaw04.HmacSame", spec := "hmacSame", apart := false, narrowed := true }
def HmacSameUptoSaid : Prop := hmacSameUptoRow.holds Try.pinned (OpenSpec.upto hmacSameSpec)

/-- 'notarylaw04.HmacTags', WHERE WHAT IT READS IS OF BULK AT MOST 1048576: true; the input reads as it did. -/
def hmacTagsUptoRow : OpenClaim := { program := "ytpebbjhllfcnbaa", sum := "c0667031a00c57b9ceffa21de395e6d7b1ccc681db0c5e83fc15f636d73a320f", func := "notary/notarylaw04.HmacTags", spec := "hmacTags", unfollowed := true, recurses := true, apart := false, narrowed := true }
def HmacTagsUptoSaid : Prop := hmacTagsUptoRow.holds Try.pinned (OpenSpec.upto hmacTagsSpec)

/-- 'notarylaw04.HmacKeys', WHERE WHAT IT READS IS OF BULK AT MOST 1048576: true; the input reads as it did. -/
def hmacKeysUptoRow : OpenClaim := { program := "ytpebbjhllfcnbaa", sum := "c0667031a00c57b9ceffa21de395e6d7b1ccc681db0c5e83fc15f636d73a320f", func := "notary/notarylaw04.HmacKeys", spec := "hmacKeys", unfollowed := true, recurses := true, apart := false, narrowed := true }
def HmacKeysUptoSaid : Prop := hmacKeysUptoRow.holds Try.pinned (OpenSpec.upto hmacKeysSpec)

end Rows
end Go.Proofs.Ytpebbjhllfcnbaa
