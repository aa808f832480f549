/- The law of what is done to a device, for every input of its row. -/
import Derived.Test.YtlbabncagdkjpaaDLaw48b
import Derived.Test.YtlbabncagdkjpaaWDev
import Derived.Test.YtlbabncagdkjpaaPAllx11
namespace Go.Proofs.Ytlbabncagdkjpaa.Walk
set_option linter.unusedVariables false
open Go.RowKit Go.Proofs.Ytlbabncagdkjpaa.PAll Go.Proofs.Ytlbabncagdkjpaa.SOpen Go.Proofs.YtlbabncagdkjpaaW.PrintWords Go.Proofs.YtlbabncagdkjpaaW.PrintLast Go.Proofs.YtlbabncagdkjpaaW.PrintMore
theorem DeviceDoes (w : World) (room : Int) (_ : (Lit.int .i64 room).wf = true) (A : Option Addr) (c : Nat) (l : List S66) (hc : l.length ≤ c) (hC : Kd.C k66 w A l.length l) (hw : l.length ≤ maxLen) :
    Calls Try.prog 8 #[.int .i64 room, .slice A l.length c] w fun e w' => e = .returned (.bool true) ∧ Below w.heap.size w w' := DDev.DeviceDoes.calls room A c l w hC hc hw
end Go.Proofs.Ytlbabncagdkjpaa.Walk
