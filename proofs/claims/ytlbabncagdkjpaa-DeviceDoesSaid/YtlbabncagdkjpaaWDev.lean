/- The laws of the device, for every input of their rows. -/
import Derived.Test.YtlbabncagdkjpaaDLaw48
import Derived.Test.YtlbabncagdkjpaaSOpen
import Derived.Test.YtlbabncagdkjpaaPAllx11
namespace Go.Proofs.Ytlbabncagdkjpaa.Walk
set_option linter.unusedVariables false
open Go.RowKit Go.Proofs.Ytlbabncagdkjpaa.PAll Go.Proofs.Ytlbabncagdkjpaa.SOpen Go.Proofs.YtlbabncagdkjpaaW.PrintWords Go.Proofs.YtlbabncagdkjpaaW.PrintLast Go.Proofs.YtlbabncagdkjpaaW.PrintMore
theorem opOpn : SOpen.Op Try.prog 66 k66 (fun _ => True) :=
  op_mono (op_struct _ (fun p => ⟨p.1, p.2.1, p.2.2⟩) (fun _ => rfl) Try.underlying66 (by kernel_rfl) (fun m => seq_cons (op_int Try.underlying3 m) (seq_cons (op_slice Try.underlying60 (by kernel_rfl) (op_int Try.underlying5) m) (seq_one (op_int Try.underlying3 m))))) (fun _ _ => trivial)
theorem opOpns : SOpen.Op Try.prog 56 (Kd.slice 66 k66) (fun l => l.length ≤ maxLen) :=
  op_mono (op_slice Try.underlying56 (by kernel_rfl) opOpn) (fun _ h => h.1)
theorem DeviceNil (w : World) (A : Option Addr) (c : Nat) (l : List S66) (hc : l.length ≤ c) (hC : Kd.C k66 w A l.length l) (hw : l.length ≤ maxLen) :
    Calls Try.prog 10 #[.slice A l.length c] w fun e w' => e = .returned (.bool true) ∧ Below w.heap.size w w' := DDev.DeviceNil.calls A c l w hC hc hw
theorem DeviceLasts (w : World) (room : Int) (_ : (Lit.int .i64 room).wf = true) (A : Option Addr) (c : Nat) (l : List S66) (hc : l.length ≤ c) (hC : Kd.C k66 w A l.length l) (hw : l.length ≤ maxLen)
    (cs : Array Value) (x : S66) (hK : k66.K w x cs.toList) (_ : True) :
    Calls Try.prog 9 #[.int .i64 room, .slice A l.length c, .agg cs] w fun e w' => e = .returned (.bool true) ∧ Below w.heap.size w w' := by
  obtain ⟨A1, c1, he, hl, hg⟩ := k66_open hK
  have hcs : cs = #[.int .i64 x.f0, .slice A1 x.f1.length c1, .int .i64 x.f2] := by
    cases cs
    simpa using he
  rw [hcs]
  exact DDev.DeviceLasts.calls room A c l x A1 c1 w hC hc hw hg
end Go.Proofs.Ytlbabncagdkjpaa.Walk
