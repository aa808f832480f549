/- The law ShaTails, over numbers alone: true of any of them. -/
import Derived.Test.YtpebbjhllfcnbaaLTail
import Derived.Test.YtpebbjhllfcnbaaPAllx1
namespace Go.Proofs.Ytpebbjhllfcnbaa.Pure
open Go.RowKit Go.Proofs.Ytpebbjhllfcnbaa.LSame Go.Proofs.Ytpebbjhllfcnbaa.LTail Go.Proofs.Ytpebbjhllfcnbaa.PAll Go.Proofs.YtpebbjhllfcnbaaW.PrintWords Go.Proofs.YtpebbjhllfcnbaaW.PrintLast Go.Proofs.YtpebbjhllfcnbaaW.PrintMore
set_option linter.unusedVariables false

theorem ShaTails : notarylaw03_ShaTails.Pure := by
  intro n hn
  obtain ⟨h0, h1⟩ := wf_i64 n hn
  refine Ev.rounds (g := fun k => notarylaw03_ShaTails.f k n) ?_
  unfold notarylaw03_ShaTails.f
  by_cases h : n < 0
  · simp only [h, if_true]
    refine Ev.bind (tail_neg n h) ?_
    simp only [List.length_nil]
    refine Ev.bind (tail_ev 0 (by decide) (by decide)) ?_
    have : ((tail 0).length : Int) == 64 := by rw [tail_length]; decide
    rw [this]
    exact Ev.now _
  · simp only [h, if_false]
    refine Ev.bind (tail_ev n (by omega) h1) (Ev.bind (rtail_ev n (by omega) h1) ?_)
    have hl := tail_length n
    have hg := gap_lt n
    refine Ev.bind (same_self _ (by omega)) ?_
    exact Ev.now _
end Go.Proofs.Ytpebbjhllfcnbaa.Pure
