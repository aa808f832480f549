/- Logs, plainly: whether they verify; the law of what is read. -/
import Derived.Test.YtogjnipojakfjaaLChain2
import Derived.Test.YtogjnipojakfjaaPJvx14
namespace Go.Proofs.Ytogjnipojakfjaa.LChain
open Go.RowKit Go.Proofs.Ytogjnipojakfjaa.PJv Go.Proofs.YtogjnipojakfjaaW.PrintWords Go.Proofs.YtogjnipojakfjaaW.PrintLast Go.Proofs.YtogjnipojakfjaaW.PrintMore
open LSame (Byt)
set_option linter.unusedVariables false
set_option linter.unusedSimpArgs false
/-- whether a log verifies -/
noncomputable def verS (key log : List Int) (n : Int) (tag : List Int) : Bool := decide ((entS key log).2.2 = 0 ∧ ((entS key log).1.length : Int) = n ∧ (entS key log).2.1 = tag)
theorem rverify_ev (key log : List Int) (n : Int) (tag : List Int) (hk : Byt key) (hkl : key.length ≤ 1000) (hB : Byt log) (hl : log.length ≤ 1000000) : Ev (fun m => notaryref47_Verify.f m key log n tag) (verS key log n tag) := by
  obtain ⟨_, _, hb, hlen⟩ := entS_fine key log hB hl
  refine Ev.congr (fun m => notaryref47_Verify.f.eq_1 ..) (LEv.bd _ (rentries_ev key log hk hkl hB hl) ?_)
  unfold verS
  obtain ⟨q, hq⟩ : ∃ q, q = entS key log := ⟨_, rfl⟩
  rw [← hq] at hb hlen ⊢
  by_cases h0 : q.2.2 = 0
  · refine LEv.pos h0 ?_
    by_cases h1 : (q.1.length : Int) = n
    · refine LEv.pos h1 (LEv.bd _ (LSame.same_ev q.2.1 tag (by omega)) (LEv.fin (decide_eq_decide.mpr ⟨fun h => ⟨h0, h1, h⟩, fun h => h.2.2⟩)))
    · exact LEv.neg h1 (LEv.fin (decide_eq_false (fun h => h1 h.2.1)).symm)
  · exact LEv.neg h0 (LEv.fin (decide_eq_false (fun h => h0 h.1)).symm)
end Go.Proofs.Ytogjnipojakfjaa.LChain
