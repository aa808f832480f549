/- The laws of checks and edits, walked: they answer true. -/
import Derived.Test.YtlbabncagdkjpaaLRegion2
import Derived.Test.YtlbabncagdkjpaaSOpen
import Derived.Test.YtlbabncagdkjpaaPAllx9
import Derived.Test.YtlbabncagdkjpaaPAllx10
namespace Go.Proofs.Ytlbabncagdkjpaa.Walk
set_option linter.unusedVariables false
open Go.RowKit Go.Proofs.Ytlbabncagdkjpaa.PAll Go.Proofs.Ytlbabncagdkjpaa.SOpen Go.Proofs.YtlbabncagdkjpaaW.PrintWords Go.Proofs.YtlbabncagdkjpaaW.PrintLast Go.Proofs.YtlbabncagdkjpaaW.PrintMore
theorem opRegion : SOpen.Op Try.prog 29 k29 (fun _ => True) :=
  op_mono (op_struct _ (fun p => ⟨p.1, p.2.1, p.2.2.1, p.2.2.2⟩) (fun _ => rfl) Try.underlying29 (by kernel_rfl) (fun m => seq_cons (op_int Try.underlying3 m) (seq_cons (op_int Try.underlying3 m) (seq_cons (op_int Try.underlying3 m) (seq_one (op_int Try.underlying3 m)))))) (fun _ _ => trivial)
theorem opRegions : SOpen.Op Try.prog 22 (Kd.slice 29 k29) (fun _ => True) :=
  op_mono (op_slice Try.underlying22 (by kernel_rfl) opRegion) (fun _ _ => trivial)
theorem RegionChecks (w : World) (p : ByteArray) (hp : p.size ≤ 140737488351232) (q : ByteArray) (hq : q.size ≤ 140737488351232) (A : Option Addr) (c : Nat) (l : List S29) (hc : l.length ≤ c) (hC : Kd.C k29 w A l.length l) (_ : True) :
    Calls Try.prog 4 #[.string p, .string q, .slice A l.length c] w fun e w' => e = .returned (.bool true) ∧ Below w.heap.size w w' := by
  obtain ⟨k, h⟩ := Ev.rounds (LRegion2.RegionChecks_ev p q hp hq l)
  exact notarylaw38_RegionChecks.calls k p q A c l true w hC hc h
theorem RegionEdits (w : World) (q : ByteArray) (hq : q.size ≤ 140737488351232) (A : Option Addr) (c : Nat) (l : List S29) (hc : l.length ≤ c) (hC : Kd.C k29 w A l.length l) (_ : True) :
    Calls Try.prog 5 #[.string q, .slice A l.length c] w fun e w' => e = .returned (.bool true) ∧ Below w.heap.size w w' := by
  obtain ⟨k, h⟩ := Ev.rounds (LRegion2.RegionEdits_ev q l)
  exact notarylaw38_RegionEdits.calls k q A c l true w hC hc h
end Go.Proofs.Ytlbabncagdkjpaa.Walk
