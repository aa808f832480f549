/- The law HmacSame, over lists of bytes alone: true of any two of them. -/
import Derived.Test.YtpebbjhllfcnbaaLSame
import Derived.Test.YtpebbjhllfcnbaaPAllx7
namespace Go.Proofs.Ytpebbjhllfcnbaa.Pure
open Go.RowKit Go.Proofs.Ytpebbjhllfcnbaa.LSame Go.Proofs.Ytpebbjhllfcnbaa.PAll Go.Proofs.YtpebbjhllfcnbaaW.PrintWords Go.Proofs.YtpebbjhllfcnbaaW.PrintLast Go.Proofs.YtpebbjhllfcnbaaW.PrintMore
set_option linter.unusedVariables false

theorem HmacSame : notarylaw04_HmacSame.Pure := by
  intro x y _ hx1 hx _ hy1 hy
  have bx := byt_u8 hx
  have by' := byt_u8 hy
  refine Ev.rounds (g := fun k => notarylaw04_HmacSame.f k x y) ?_
  unfold notarylaw04_HmacSame.f
  refine Ev.bind (hsame_ev x y (by omega) bx by') (Ev.bind (same_ev x y (by omega)) ?_)
  simp only [beq_self_eq_true, if_true, Option.bind_some, List.nil_append, List.length_nil, List.length_singleton]
  have e1 := hsame_ev x x (by omega) bx bx
  rw [decide_eq_true rfl] at e1
  have e2 := hsame_ev x ([0] ++ x) (by omega) bx ((Byt.cons (by decide) (by decide) Byt.nil).append bx)
  rw [decide_eq_false (by intro h; have := congrArg List.length h; simp at this)] at e2
  refine Ev.congr (f := fun k => (hmac_Same.f k x x).bind fun t => (if t = true then ((hmac_Same.f k x ([0] ++ x)).bind fun t2 => some (!t2)) else some false)) (fun k => by rw [if_pos (by omega), if_pos (by omega)]) ?_
  refine Ev.bind e1 ?_
  simp only [if_true]
  refine Ev.bind e2 ?_
  exact Ev.now _
end Go.Proofs.Ytpebbjhllfcnbaa.Pure
