/- The law ShaSums, over numbers alone. -/
import Derived.Test.YtpebbjhllfcnbaaLSha3
import Derived.Test.YtpebbjhllfcnbaaPAllx8
namespace Go.Proofs.Ytpebbjhllfcnbaa.Pure
open Go.RowKit Go.Proofs.Ytpebbjhllfcnbaa.LSha Go.Proofs.Ytpebbjhllfcnbaa.PAll Go.Proofs.YtpebbjhllfcnbaaW.PrintWords Go.Proofs.YtpebbjhllfcnbaaW.PrintLast Go.Proofs.YtpebbjhllfcnbaaW.PrintMore
set_option linter.unusedVariables false
theorem ShaSums : notarylaw03_ShaSums.Pure := by
  intro l hl hl2 hw
  have hb : Byt l := Ytpebbjhllfcnbaa.LSame.byt_u8 hw
  refine Ev.rounds (g := fun k => notarylaw03_ShaSums.f k l) ?_
  unfold notarylaw03_ShaSums.f
  by_cases hbig : (l.length : Int) > 300
  · refine Ev.congr (f := fun k => (sha_Sum.f k ([] : List Int)).bind fun t307 => (some ((t307.length : Int) == 32))) (fun k => if_pos hbig) ?_
    obtain ⟨r, h1, _, h32, _⟩ := sum_same [] (fun x hx => by cases hx) (by simp)
    refine Ev.bind (f := fun k t307 => (some ((List.length t307 : Int) == 32))) h1 ?_
    rw [h32]
    exact Ev.now _
  · refine Ev.congr (f := fun k => (sha_Sum.f k l).bind fun t310 => ((notaryref03_Sum.f k l).bind fun t313 => ((notaryref01_Same.f k t310 t313).bind fun t316 => (some t316)))) (fun k => if_neg hbig) ?_
    obtain ⟨r, h1, h2, h32, _⟩ := sum_same l hb (by omega)
    refine Ev.bind (f := fun k t310 => (notaryref03_Sum.f k l).bind fun t313 => ((notaryref01_Same.f k t310 t313).bind fun t316 => (some t316))) h1 ?_
    refine Ev.bind (f := fun k t313 => (notaryref01_Same.f k r t313).bind fun t316 => (some t316)) h2 ?_
    exact Ev.bind (f := fun k t => some t) (Ytpebbjhllfcnbaa.LSame.same_self r (by omega)) (Ev.now _)
end Go.Proofs.Ytpebbjhllfcnbaa.Pure
