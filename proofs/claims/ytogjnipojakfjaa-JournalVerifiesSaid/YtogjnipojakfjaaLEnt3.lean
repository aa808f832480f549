/- Entries, plainly: the reference's payload and frame, and a frame that is read back, whatever stands ahead and behind. -/
import Derived.Test.YtogjnipojakfjaaLEnt
import Derived.Test.YtogjnipojakfjaaLSame
import Derived.Test.YtogjnipojakfjaaPJvx1
import Derived.Test.YtogjnipojakfjaaPJvx4
import Derived.Test.YtogjnipojakfjaaPJvx7
namespace Go.Proofs.Ytogjnipojakfjaa.LEnt
open Go.RowKit Go.Proofs.Ytogjnipojakfjaa.PJv Go.Proofs.YtogjnipojakfjaaW.PrintWords Go.Proofs.YtogjnipojakfjaaW.PrintLast Go.Proofs.YtogjnipojakfjaaW.PrintMore
set_option linter.unusedVariables false
set_option linter.unusedSimpArgs false
theorem rpayload_ev (k : Int) (b : List Int) : Ev (fun m => notaryref46_Payload.f m k b) (payS k b) := by
  unfold payS
  have bad : Ev (fun m => notaryref46_Payload.j0 m true k b) ([], 23) := Ev.step (fun m => notaryref46_Payload.j0.eq_2 ..) (LEv.pos rfl (Ev.now _))
  refine Ev.congr (fun m => notaryref46_Payload.f.eq_1 ..) ?_
  by_cases h1 : k < 1
  · exact LEv.pos h1 (LEv.val (by rw [if_neg (by omega)]) bad)
  · refine LEv.neg h1 ?_
    by_cases h2 : k > 3
    · rw [decide_eq_true h2]
      exact LEv.val (by rw [if_neg (by omega)]) bad
    · rw [decide_eq_false h2]
      refine Ev.step (fun m => notaryref46_Payload.j0.eq_2 ..) (LEv.neg (by decide) ?_)
      by_cases h3 : (b.length : Int) > 1024
      · exact LEv.pos h3 (LEv.fin (by rw [if_pos (by omega), if_pos h3]))
      · exact LEv.neg h3 (LEv.sb (LEv.pos (by simp; omega) (LEv.fin (by rw [if_pos (by omega), if_neg h3]; rfl))))
end Go.Proofs.Ytogjnipojakfjaa.LEnt
