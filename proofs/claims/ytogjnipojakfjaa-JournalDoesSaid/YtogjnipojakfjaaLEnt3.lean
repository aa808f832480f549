/- Entries, plainly: the reference's payload and frame, and a frame that is read back, whatever stands ahead and behind. -/
import Derived.Test.YtogjnipojakfjaaLEnt
import Derived.Test.YtogjnipojakfjaaLSame
import Derived.Test.YtogjnipojakfjaaPJdx1
import Derived.Test.YtogjnipojakfjaaPJdx3
import Derived.Test.YtogjnipojakfjaaPJdx4
import Derived.Test.YtogjnipojakfjaaPJdx9
import Derived.Test.YtogjnipojakfjaaPJdx10
namespace Go.Proofs.Ytogjnipojakfjaa.LEnt
open Go.RowKit Go.Proofs.Ytogjnipojakfjaa.PJd Go.Proofs.YtogjnipojakfjaaW.PrintWords Go.Proofs.YtogjnipojakfjaaW.PrintLast Go.Proofs.YtogjnipojakfjaaW.PrintMore
set_option linter.unusedVariables false
set_option linter.unusedSimpArgs false
theorem rpayload_ev (k : Int) (b : List Int) : Ev (fun m => notaryref46_Payload.f m k b) (payS k b) := by
  unfold payS
  have bad : Ev (fun m => notaryref46_Payload.j0 m true k b) ([], 23) := Ev.step (fun m => notaryref46_Payload.j0.eq_2 ..) (LEv.pos rfl (Ev.now _))
  refine Ev.congr (fun m => notaryref46_Payload.f.eq_1 ..) ?_
  by_cases h1 : k < 1
  · exact LEv.pos h1 (LEv.val (by rw [if_neg (by omega)]) bad)
  · refine LEv.neg h1 ?_
    by_cases h2 : k > 3
    · rw [decide_eq_true h2]
      exact LEv.val (by rw [if_neg (by omega)]) bad
    · rw [decide_eq_false h2]
      refine Ev.step (fun m => notaryref46_Payload.j0.eq_2 ..) (LEv.neg (by decide) ?_)
      by_cases h3 : (b.length : Int) > 1024
      · exact LEv.pos h3 (LEv.fin (by rw [if_pos (by omega), if_pos h3]))
      · exact LEv.neg h3 (LEv.sb (LEv.pos (by simp; omega) (LEv.fin (by rw [if_pos (by omega), if_neg h3]; rfl))))
theorem rframe_ev (k : Int) (b t : List Int) : Ev (fun m => notaryref46_Frame.f m k b t) (frS k b t) := by
  have hl := payS_len k b
  refine Ev.congr (fun m => notaryref46_Frame.f.eq_1 ..) (LEv.bd _ (rpayload_ev k b) ?_)
  by_cases h0 : (payS k b).2 = 0
  · refine LEv.pos h0 ?_
    by_cases h1 : t.length = 32
    · refine LEv.pos (by omega) (LEv.sb (LEv.pos (by simp; omega) (LEv.sb (LEv.pos (by rw [List.length_append]; simp; omega) (LEv.fin ?_)))))
      unfold frS
      rw [if_pos h0, if_pos h1]
      obtain ⟨p, hp⟩ : ∃ p, p = payS k b := ⟨_, rfl⟩
      rw [← hp] at hl ⊢
      unfold entry_length.bytes
      have hw : wrap64 ((p.1.length : Int) / 256) = (p.1.length : Int) / 256 := LEv.w64 _ (by omega) (by omega)
      have h2 : (p.1.length : Int) / 16777216 = 0 := by omega
      have h3 : (p.1.length : Int) / 65536 = 0 := by omega
      rw [hw, h2, h3]
    · exact LEv.neg (by omega) (LEv.fin (by unfold frS; rw [if_pos h0, if_neg h1]))
  · exact LEv.neg h0 (LEv.fin (by unfold frS; rw [if_neg h0]))
end Go.Proofs.Ytogjnipojakfjaa.LEnt
