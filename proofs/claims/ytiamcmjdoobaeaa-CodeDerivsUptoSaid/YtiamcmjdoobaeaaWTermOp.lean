/- What reads as a term is one, of any depth. -/
import Derived.Test.YtiamcmjdoobaeaaSOpen
import Derived.Test.YtiamcmjdoobaeaaLTerm
namespace Go.Proofs.Ytiamcmjdoobaeaa.Walk
set_option linter.unusedVariables false
open Go.RowKit Go.Proofs.Ytiamcmjdoobaeaa.PCd Go.Proofs.Ytiamcmjdoobaeaa.SOpen Go.Proofs.YtiamcmjdoobaeaaW.PrintWords Go.Proofs.YtiamcmjdoobaeaaW.PrintLast Go.Proofs.YtiamcmjdoobaeaaW.PrintMore
open LTerm (T)
inductive Ok : T → Prop
  | mk (x : T) : (Lit.int .i64 x.f0).wf = true → (Lit.int .i64 x.f1).wf = true → x.f2.size ≤ maxLen → x.f3.length ≤ maxLen → (∀ y ∈ x.f3, Ok y) → (Lit.int .i64 x.f4).wf = true → (Lit.int .i64 x.f5).wf = true → Ok x
theorem Ok.fine {x : T} : Ok x → LTerm.Fine x := by
  induction x using LTerm.ind with
  | h x ih =>
  intro h
  cases h with
  | mk _ _ _ _ hl hs _ _ => exact LTerm.Fine.mk x hl (fun y hy => ih y hy (hs y hy))
theorem opTerm : SOpen.Op Try.prog 25 k25 Ok := by
  refine op_fix mono25 (fun d hd m hm => ?_)
  have h := op_struct_at (P := Try.prog) (t := 25) (fun x : T => (x.f0, x.f1, x.f2, x.f3, x.f4, x.f5)) (fun a => ⟨a.1, a.2.1, a.2.2.1, a.2.2.2.1, a.2.2.2.2.1, a.2.2.2.2.2⟩) (fun a => rfl) m Try.underlying25 (by kernel_rfl)
    (fun m' hm' => seq_cons (op_int Try.underlying3 m') (seq_cons (op_int Try.underlying2 m') (seq_cons (op_string Try.underlying9 m') (seq_cons (op_slice_at m' Try.underlying23 (by rw [hd]; kernel_rfl) (fun m'' h'' => hm m'' (by omega))) (seq_cons (op_int Try.underlying3 m') (seq_one (op_int Try.underlying3 m')))))))
  intro H enc w cs x hx
  obtain ⟨a, ha, h0, h1, h2, ⟨h3, h4⟩, h5, h6⟩ := h H enc w cs x hx
  exact ⟨a, ha, Ok.mk a h0 h1 h2 h3 h4 h5 h6⟩
end Go.Proofs.Ytiamcmjdoobaeaa.Walk
