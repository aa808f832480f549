/- What reads as faces and pairs. -/
import Derived.Test.YtppeaofdohghgaaWTermOp
import Derived.Test.YtppeaofdohghgaaLFace
namespace Go.Proofs.Ytppeaofdohghgaa.Walk
set_option linter.unusedVariables false
open Go.RowKit Go.Proofs.Ytppeaofdohghgaa.PFc Go.Proofs.Ytppeaofdohghgaa.SOpen Go.Proofs.YtppeaofdohghgaaW.PrintWords Go.Proofs.YtppeaofdohghgaaW.PrintLast Go.Proofs.YtppeaofdohghgaaW.PrintMore
open LTerm (T)
open LFace (F P FineF)
theorem opFace : SOpen.Op Try.prog 54 k54 FineF := by
  refine op_mono (op_struct (P := Try.prog) (t := 54) (fun x : F => (x.f0, x.f1, x.f2, x.f3)) (fun a => ⟨a.1, a.2.1, a.2.2.1, a.2.2.2⟩) (fun a => rfl) Try.underlying54 (by kernel_rfl)
    (fun m => seq_cons (op_string Try.underlying9 m) (seq_cons (op_slice Try.underlying22 (by kernel_rfl) opTerm m) (seq_cons (opTerm m) (seq_one (op_int Try.underlying3 m)))))) (fun a h => ?_)
  obtain ⟨_, ⟨h1, h2⟩, h3, _⟩ := h
  exact ⟨h3.fine, fun t ht => (h2 t ht).fine, h1⟩
theorem opFaces : SOpen.Op Try.prog 44 (Kd.slice 54 k54) (fun l => l.length ≤ maxLen ∧ ∀ x ∈ l, FineF x) :=
  op_slice Try.underlying44 (by kernel_rfl) opFace
theorem opPair : SOpen.Op Try.prog 56 k56 (fun _ => True) :=
  op_mono (op_struct (P := Try.prog) (t := 56) (fun x : P => (x.f0, x.f1)) (fun a => ⟨a.1, a.2⟩) (fun a => rfl) Try.underlying56 (by kernel_rfl)
    (fun m => seq_cons (op_int Try.underlying3 m) (seq_one (op_int Try.underlying3 m)))) (fun a h => trivial)
theorem opPairs : SOpen.Op Try.prog 45 (Kd.slice 56 k56) (fun l => l.length ≤ maxLen ∧ ∀ x ∈ l, True) :=
  op_slice Try.underlying45 (by kernel_rfl) opPair
end Go.Proofs.Ytppeaofdohghgaa.Walk
