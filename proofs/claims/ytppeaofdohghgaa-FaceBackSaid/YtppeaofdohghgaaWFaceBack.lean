/- The law of faces (Back), for every input of its row. -/
import Derived.Test.YtppeaofdohghgaaPureFaceBack
import Derived.Test.YtppeaofdohghgaaWFaceOp
import Derived.Test.YtppeaofdohghgaaPFcx11
namespace Go.Proofs.Ytppeaofdohghgaa.Walk
set_option linter.unusedVariables false
open Go.RowKit Go.Proofs.Ytppeaofdohghgaa.PFc Go.Proofs.Ytppeaofdohghgaa.SOpen Go.Proofs.YtppeaofdohghgaaW.PrintWords Go.Proofs.YtppeaofdohghgaaW.PrintLast Go.Proofs.YtppeaofdohghgaaW.PrintMore
open LFace (F P FineF)
theorem FaceBack (w : World) (A0 : Option Addr) (c0 : Nat) (l0 : List F) (hc0 : l0.length ≤ c0) (hC0 : Kd.C k54 w A0 l0.length l0) (hw0 : l0.length ≤ maxLen ∧ ∀ x ∈ l0, FineF x)
    (A1 : Option Addr) (c1 : Nat) (l1 : List F) (hc1 : l1.length ≤ c1) (hC1 : Kd.C k54 w A1 l1.length l1) (hw1 : l1.length ≤ maxLen ∧ ∀ x ∈ l1, FineF x)
    (A2 : Option Addr) (c2 : Nat) (l2 : List P) (hc2 : l2.length ≤ c2) (hC2 : Kd.C k56 w A2 l2.length l2) (hw2 : l2.length ≤ maxLen ∧ ∀ x ∈ l2, True) :
    Calls Try.prog 7 #[.slice A0 l0.length c0, .slice A1 l1.length c1, .slice A2 l2.length c2] w fun e w' => e = .returned (.bool true) ∧ Below w.heap.size w w' := by
  obtain ⟨k, hk⟩ := Ev.rounds (LFace.FaceBack l0 l1 l2 hw0.1 hw1.1 hw0.2 hw1.2)
  exact notarylaw18_FaceBack.calls k A0 c0 l0 A1 c1 l1 A2 c2 l2 true w hC0 hc0 hC1 hc1 hC2 hc2 hk
end Go.Proofs.Ytppeaofdohghgaa.Walk
