/-
  No cell of these rows narrows 'for every input' (looked for: loops, veiled, ifaces, maps, wideKeys, modest, calm, conditions, laid).
  DERIVED. THE GIVEN ROWS OF THIS SEAT. 8 by the template 'for every input the law returns true; each argument reads behind the call as it read before'; 0 by the template 'total and deterministic' (their statements: YtlbabncagdkjpaaTotals.lean).
  GIVEN WITH THE SEED: the statements are not yours to turn. If you find one false, say at which input.
  Laid BY PROGRAM, IN A SANDBOX (cutbox-rows.mjs): the forced cells as the released guide's own fill.sh prints them over the translation 7a4fc839eb494605… (all of the seat's roots in one cut). By AI agents, Wed Nov 11 2026. No macro, syntax, notation, axiom, sorry.
-/
import Derived.Test.YtlbabncagdkjpaaChecked
import GoSem.Claim
import GoSem.ClaimJoined
import GoSem.ClaimMapViews
import Derived.JoinedTies
import Derived.KernelRfl
namespace Go.Proofs.Ytlbabncagdkjpaa
/- THE CELL 'sum', in the pinned program and in every row, IS THE sha256 OF THE DUMP (.gsa) THAT YtlbabncagdkjpaaProg.lean LOADS. Nothing in Lean hashes anything: it is a label: what it is worth is what the hold of that sum in a sandbox is worth. -/
noncomputable def Try.pinned : Pinned := { name := "ytlbabncagdkjpaa", sum := "7a4fc839eb494605683b77665524d559051042d6af16422c7edeaf0c58250234", checked := Try.checked }
namespace Rows
def none {H : Type} : Left H := { results := [], args := [] }

/-- 'notarylaw38.RegionOne': WHATEVER THE INPUT: true; the input reads as it did. -/
def regionOneSpec : ChangeSpec := { name := "regionOne", fn := fun _ => fun
  | [d1, d2] => { results := [.lit (.bool true)], args := [d1, d2] }
  | _ => none }
def regionOneRow : OpenClaim := { program := "ytlbabncagdkjpaa", sum := "7a4fc839eb494605683b77665524d559051042d6af16422c7edeaf0c58250234", func := "notary/notarylaw38.RegionOne", spec := "regionOne", unfollowed := true, recurses := true, apart := false }
def RegionOneSaid : Prop := regionOneRow.holds Try.pinned (OpenSpec.ofChange regionOneSpec)

/-- ITS FALSE NEIGHBOUR: 'it returns false'. Refute it at one input. -/
def regionOneWrong : ChangeSpec := { name := "regionOne", fn := fun _ => fun
  | [d1, d2] => { results := [.lit (.bool false)], args := [d1, d2] }
  | _ => none }
def RegionOneWrongFalsely : Prop := regionOneRow.holds Try.pinned (OpenSpec.ofChange regionOneWrong)

/-- 'notarylaw38.RegionChecks': WHATEVER THE INPUT: true; the input reads as it did. -/
def regionChecksSpec : ChangeSpec := { name := "regionChecks", fn := fun _ => fun
  | [d1, d2, d3] => { results := [.lit (.bool true)], args := [d1, d2, d3] }
  | _ => none }
def regionChecksRow : OpenClaim := { program := "ytlbabncagdkjpaa", sum := "7a4fc839eb494605683b77665524d559051042d6af16422c7edeaf0c58250234", func := "notary/notarylaw38.RegionChecks", spec := "regionChecks", unfollowed := true, recurses := true, apart := false }
def RegionChecksSaid : Prop := regionChecksRow.holds Try.pinned (OpenSpec.ofChange regionChecksSpec)

/-- ITS FALSE NEIGHBOUR: 'it returns false'. Refute it at one input. -/
def regionChecksWrong : ChangeSpec := { name := "regionChecks", fn := fun _ => fun
  | [d1, d2, d3] => { results := [.lit (.bool false)], args := [d1, d2, d3] }
  | _ => none }
def RegionChecksWrongFalsely : Prop := regionChecksRow.holds Try.pinned (OpenSpec.ofChange regionChecksWrong)

/-- 'notarylaw38.RegionEdits': WHATEVER THE INPUT: true; the input reads as it did. -/
def regionEditsSpec : ChangeSpec := { name := "regionEdits", fn := fun _ => fun
  | [d1, d2] => { results := [.lit (.bool true)], args := [d1, d2] }
  | _ => none }
def regionEditsRow : OpenClaim := { program := "ytlbabncagdkjpaa", sum := "7a4fc839eb494605683b77665524d559051042d6af16422c7edeaf0c58250234", func := "notary/notarylaw38.RegionEdits", spec := "regionEdits", unfollowed := true, recurses := true, apart := false }
def RegionEditsSaid : Prop := regionEditsRow.holds Try.pinned (OpenSpec.ofChange regionEditsSpec)

/-- ITS FALSE NEIGHBOUR: 'it returns false'. Refute it at one input. -/
def regionEditsWrong : ChangeSpec := { name := "regionEdits", fn := fun _ => fun
  | [d1, d2] => { results := [.lit (.bool false)], args := [d1, d2] }
  | _ => none }
def RegionEditsWrongFalsely : Prop := regionEditsRow.holds Try.pinned (OpenSpec.ofChange regionEditsWrong)

/-- 'notarylaw40.PickOwn': WHATEVER THE INPUT: true; the input reads as it did. -/
def pickOwnSpec : ChangeSpec := { name := "pickOwn", fn := fun _ => fun
  | [d] => { results := [.lit (.bool true)], args := [d] }
  | _ => none }
def pickOwnRow : OpenClaim := { program := "ytlbabncagdkjpaa", sum := "7a4fc839eb494605683b77665524d559051042d6af16422c7edeaf0c58250234", func := "notary/notarylaw40.PickOwn", spec := "pickOwn", recurses := true, apart := false }
def PickOwnSaid : Prop := pickOwnRow.holds Try.pinned (OpenSpec.ofChange pickOwnSpec)

/-- ITS FALSE NEIGHBOUR: 'it returns false'. Refute it at one input. -/
def pickOwnWrong : ChangeSpec := { name := "pickOwn", fn := fun _ => fun
  | [d] => { results := [.lit (.bool false)], args := [d] }
  | _ => none }
def PickOwnWrongFalsely : Prop := pickOwnRow.holds Try.pinned (OpenSpec.ofChange pickOwnWrong)

/-- 'notarylaw40.PickFinds': WHATEVER THE INPUT: true; the input reads as it did. -/
def pickFindsSpec : ChangeSpec := { name := "pickFinds", fn := fun _ => fun
  | [d1, d2, d3] => { results := [.lit (.bool true)], args := [d1, d2, d3] }
  | _ => none }
def pickFindsRow : OpenClaim := { program := "ytlbabncagdkjpaa", sum := "7a4fc839eb494605683b77665524d559051042d6af16422c7edeaf0c58250234", func := "notary/notarylaw40.PickFinds", spec := "pickFinds", recurses := true, apart := false }
def PickFindsSaid : Prop := pickFindsRow.holds Try.pinned (OpenSpec.ofChange pickFindsSpec)

/-- ITS FALSE NEIGHBOUR: 'it returns false'. Refute it at one input. -/
def pickFindsWrong : ChangeSpec := { name := "pickFinds", fn := fun _ => fun
  | [d1, d2, d3] => { results := [.lit (.bool false)], args := [d1, d2, d3] }
  | _ => none }
def PickFindsWrongFalsely : Prop := pickFindsRow.holds Try.pinned (OpenSpec.ofChange pickFindsWrong)

/-- 'notarylaw48.DeviceDoes': WHATEVER THE INPUT: true; the input reads as it did. -/
def deviceDoesSpec : ChangeSpec := { name := "deviceDoes", fn := fun _ => fun
  | [d1, d2] => { results := [.lit (.bool true)], args := [d1, d2] }
  | _ => none }
def deviceDoesRow : OpenClaim := { program := "ytlbabncagdkjpaa", sum := "7a4fc839eb494605683b77665524d559051042d6af16422c7edeaf0c58250234", func := "notary/notarylaw48.DeviceDoes", spec := "deviceDoes", apart := false }
def DeviceDoesSaid : Prop := deviceDoesRow.holds Try.pinned (OpenSpec.ofChange deviceDoesSpec)

/-- ITS FALSE NEIGHBOUR: 'it returns false'. Refute it at one input. -/
def deviceDoesWrong : ChangeSpec := { name := "deviceDoes", fn := fun _ => fun
  | [d1, d2] => { results := [.lit (.bool false)], args := [d1, d2] }
  | _ => none }
def DeviceDoesWrongFalsely : Prop := deviceDoesRow.holds Try.pinned (OpenSpec.ofChange deviceDoesWrong)

/-- 'notarylaw48.DeviceLasts': WHATEVER THE INPUT: true; the input reads as it did. -/
def deviceLastsSpec : ChangeSpec := { name := "deviceLasts", fn := fun _ => fun
  | [d1, d2, d3] => { results := [.lit (.bool true)], args := [d1, d2, d3] }
  | _ => none }
def deviceLastsRow : OpenClaim := { program := "ytlbabncagdkjpaa", sum := "7a4fc839eb494605683b77665524d559051042d6af16422c7edeaf0c58250234", func := "notary/notarylaw48.DeviceLasts", spec := "deviceLasts", apart := false }
def DeviceLastsSaid : Prop := deviceLastsRow.holds Try.pinned (OpenSpec.ofChange deviceLastsSpec)

/-- ITS FALSE NEIGHBOUR: 'it returns false'. Refute it at one input. -/
def deviceLastsWrong : ChangeSpec := { name := "deviceLasts", fn := fun _ => fun
  | [d1, d2, d3] => { results := [.lit (.bool false)], args := [d1, d2, d3] }
  | _ => none }
def DeviceLastsWrongFalsely : Prop := deviceLastsRow.holds Try.pinned (OpenSpec.ofChange deviceLastsWrong)

/-- 'notarylaw48.DeviceNil': WHATEVER THE INPUT: true; the input reads as it did. -/
def deviceNilSpec : ChangeSpec := { name := "deviceNil", fn := fun _ => fun
  | [d] => { results := [.lit (.bool true)], args := [d] }
  | _ => none }
def deviceNilRow : OpenClaim := { program := "ytlbabncagdkjpaa", sum := "7a4fc839eb494605683b77665524d559051042d6af16422c7edeaf0c58250234", func := "notary/notarylaw48.DeviceNil", spec := "deviceNil", apart := false }
def DeviceNilSaid : Prop := deviceNilRow.holds Try.pinned (OpenSpec.ofChange deviceNilSpec)

/-- ITS FALSE NEIGHBOUR: 'it returns false'. Refute it at one input. -/
def deviceNilWrong : ChangeSpec := { name := "deviceNil", fn := fun _ => fun
  | [d] => { results := [.lit (.bool false)], args := [d] }
  | _ => none }
def DeviceNilWrongFalsely : Prop := deviceNilRow.holds Try.pinned (OpenSpec.ofChange deviceNilWrong)

/- THE SECOND FORM. 'bulk': how many values and letters a reading holds, each counted each time it is reached (what is shared counts as often as it is met; a slice's spare places count too). A statement '..UptoSaid' is the law's where the arguments, and the package variables that the reading takes, are together of bulk at most 1048576: NARROWER than '..Said'. Prove '..Said' where nothing that the law and all that it calls make is longer than what came in: it says more and counts as full. Else prove '..UptoSaid'. A law counts once. -/
mutual
def uptoBulk {H : Type} : DataW H → Nat
  | .lit (.string bytes) => bytes.length + 1
  | .lit _ => 1
  | .nil => 1
  | .ptr d => uptoBulk d + 1
  | .slice elems spare => uptoBulkAll elems + uptoBulkAll spare + 1
  | .agg parts => uptoBulkAll parts + 1
  | .iface _ d => uptoBulk d + 1
  | .map entries => uptoBulkEntries entries + 1
  | .held _ => 1
def uptoBulkAll {H : Type} : List (DataW H) → Nat
  | [] => 0
  | d :: r => uptoBulk d + uptoBulkAll r
def uptoBulkEntries {H : Type} : List (Lit × DataW H) → Nat
  | [] => 0
  | x :: r => uptoBulkEntry x + uptoBulkEntries r
def uptoBulkEntry {H : Type} : Lit × DataW H → Nat
  | (.string bytes, d) => bytes.length + uptoBulk d + 1
  | (_, d) => uptoBulk d + 1
 end
def uptoSmall : (H : Type) → List (DataW H) → Bool := fun _ ds => decide (uptoBulkAll ds ≤ 1048576)
def OpenSpec.upto (s : _root_.Go.ChangeSpec) : _root_.Go.OpenSpec := { _root_.Go.OpenSpec.ofChange s with cond := some uptoSmall }

/-- 'notarylaw38.RegionOne', WHERE WHAT IT READS IS OF BULK AT MOST 1048576: true; the input reads as it did. -/
def regionOneUptoRow : OpenClaim := { program := "ytlbabncagdkjpaa", sum := "7a4fc839eb494605683b77665524d559051042d6af16422c7edeaf0c58250234", func := "notary/notarylaw38.RegionOne", spec := "regionOne", unfollowed := true, recurses := true, apart := false, narrowed := true }
def RegionOneUptoSaid : Prop := regionOneUptoRow.holds Try.pinned (OpenSpec.upto regionOneSpec)

/-- 'notarylaw38.RegionChecks', WHERE WHAT IT READS IS OF BULK AT MOST 1048576: true; the input reads as it did. -/
def regionChecksUptoRow : OpenClaim := { program := "ytlbabncagdkjpaa", sum := "7a4fc839eb494605683b77665524d559051042d6af16422c7edeaf0c58250234", func := "notary/notarylaw38.RegionChecks", spec := "regionChecks", unfollowed := true, recurses := true, apart := false, narrowed := true }
def RegionChecksUptoSaid : Prop := regionChecksUptoRow.holds Try.pinned (OpenSpec.upto regionChecksSpec)

/-- 'notarylaw38.RegionEdits', WHERE WHAT IT READS IS OF BULK AT MOST 1048576: true; the input reads as it did. -/
def regionEditsUptoRow : OpenClaim := { program := "ytlbabncagdkjpaa", sum := "7a4fc839eb494605683b77665524d559051042d6af16422c7edeaf0c58250234", func := "notary/notarylaw38.RegionEdits", spec := "regionEdits", unfollowed := true, recurses := true, apart := false, narrowed := true }
def RegionEditsUptoSaid : Prop := regionEditsUptoRow.holds Try.pinned (OpenSpec.upto regionEditsSpec)

/-- 'notarylaw40.PickOwn', WHERE WHAT IT READS IS OF BULK AT MOST 1048576: true; the input reads as it did. -/
def pickOwnUptoRow : OpenClaim := { program := "ytlbabncagdkjpaa", sum := "7a4fc839eb494605683b77665524d559051042d6af16422c7edeaf0c58250234", func := "notary/notarylaw40.PickOwn", spec := "pickOwn", recurses := true, apart := false, narrowed := true }
def PickOwnUptoSaid : Prop := pickOwnUptoRow.holds Try.pinned (OpenSpec.upto pickOwnSpec)

/-- 'notarylaw40.PickFinds', WHERE WHAT IT READS IS OF BULK AT MOST 1048576: true; the input reads as it did. -/
def pickFindsUptoRow : OpenClaim := { program := "ytlbabncagdkjpaa", sum := "7a4fc839eb494605683b77665524d559051042d6af16422c7edeaf0c58250234", func := "notary/notarylaw40.PickFinds", spec := "pickFinds", recurses := true, apart := false, narrowed := true }
def PickFindsUptoSaid : Prop := pickFindsUptoRow.holds Try.pinned (OpenSpec.upto pickFindsSpec)

/-- 'notarylaw48.DeviceDoes', WHERE WHAT IT READS IS OF BULK AT MOST 1048576: true; the input reads as it did. -/
def deviceDoesUptoRow : OpenClaim := { program := "ytlbabncagdkjpaa", sum := "7a4fc839eb494605683b77665524d559051042d6af16422c7edeaf0c58250234", func := "notary/notarylaw48.DeviceDoes", spec := "deviceDoes", apart := false, narrowed := true }
def DeviceDoesUptoSaid : Prop := deviceDoesUptoRow.holds Try.pinned (OpenSpec.upto deviceDoesSpec)

/-- 'notarylaw48.DeviceLasts', WHERE WHAT IT READS IS OF BULK AT MOST 1048576: true; the input reads as it did. -/
def deviceLastsUptoRow : OpenClaim := { program := "ytlbabncagdkjpaa", sum := "7a4fc839eb494605683b77665524d559051042d6af16422c7edeaf0c58250234", func := "notary/notarylaw48.DeviceLasts", spec := "deviceLasts", apart := false, narrowed := true }
def DeviceLastsUptoSaid : Prop := deviceLastsUptoRow.holds Try.pinned (OpenSpec.upto deviceLastsSpec)

/-- 'notarylaw48.DeviceNil', WHERE WHAT IT READS IS OF BULK AT MOST 1048576: true; the input reads as it did. -/
def deviceNilUptoRow : OpenClaim := { program := "ytlbabncagdkjpaa", sum := "7a4fc839eb494605683b77665524d559051042d6af16422c7edeaf0c58250234", func := "notary/notarylaw48.DeviceNil", spec := "deviceNil", apart := false, narrowed := true }
def DeviceNilUptoSaid : Prop := deviceNilUptoRow.holds Try.pinned (OpenSpec.upto deviceNilSpec)

end Rows
end Go.Proofs.Ytlbabncagdkjpaa
