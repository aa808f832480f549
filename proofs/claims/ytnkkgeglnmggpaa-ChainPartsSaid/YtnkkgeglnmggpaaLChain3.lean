/- Logs, plainly: whether they verify; the law of what is read. -/
import Derived.Test.YtnkkgeglnmggpaaLChain2
import Derived.Test.YtnkkgeglnmggpaaPCpx5
namespace Go.Proofs.Ytnkkgeglnmggpaa.LChain
open Go.RowKit Go.Proofs.Ytnkkgeglnmggpaa.PCp Go.Proofs.YtnkkgeglnmggpaaW.PrintWords Go.Proofs.YtnkkgeglnmggpaaW.PrintLast Go.Proofs.YtnkkgeglnmggpaaW.PrintMore
open LSame (Byt)
set_option linter.unusedVariables false
set_option linter.unusedSimpArgs false
/-- whether a log verifies -/
noncomputable def verS (key log : List Int) (n : Int) (tag : List Int) : Bool := decide ((entS key log).2.2 = 0 ∧ ((entS key log).1.length : Int) = n ∧ (entS key log).2.1 = tag)
theorem verify_ev (key log : List Int) (n : Int) (tag : List Int) (hk : Byt key) (hkl : key.length ≤ 1000) (hB : Byt log) (hl : log.length ≤ 1000000) (ht : Byt tag) : Ev (fun m => chain_Verify.f m key log n tag) (verS key log n tag) := by
  obtain ⟨_, _, hb, hlen⟩ := entS_fine key log hB hl
  refine Ev.congr (fun m => chain_Verify.f.eq_1 ..) (LEv.bd _ (entries_ev key log hk hkl hB hl) ?_)
  unfold verS
  obtain ⟨q, hq⟩ : ∃ q, q = entS key log := ⟨_, rfl⟩
  rw [← hq] at hb hlen ⊢
  by_cases h0 : q.2.2 = 0
  · refine LEv.pos h0 ?_
    by_cases h1 : (q.1.length : Int) = n
    · refine LEv.pos h1 (LEv.bd _ (LSame.hsame_ev q.2.1 tag (by omega) hb ht) (LEv.fin (decide_eq_decide.mpr ⟨fun h => ⟨h0, h1, h⟩, fun h => h.2.2⟩)))
    · exact LEv.neg h1 (LEv.fin (decide_eq_false (fun h => h1 h.2.1)).symm)
  · exact LEv.neg h0 (LEv.fin (decide_eq_false (fun h => h0 h.1)).symm)
theorem awake_ev : Ev (fun m => notarylaw47_awake.f m) true := by
  have hv := verify_ev [] [] 0 zeroT Byt.nil (by simp) Byt.nil (by simp) zeroT_byt
  have e : verS [] [] 0 zeroT = true := by
    unfold verS entS frsOf frs
    simp [goodS, lastT]
  rw [e] at hv
  exact Ev.congr (fun m => notarylaw47_awake.f.eq_1 ..) (LEv.eqb rfirst_ok (LEv.bd _ hv (LEv.pos rfl (LEv.eqb first_ok (LEv.fin rfl)))))
theorem awake_bind : Ev (fun m => (notarylaw47_awake.f m).bind fun t => some t) true := LEv.bd _ awake_ev (Ev.now _)
end Go.Proofs.Ytnkkgeglnmggpaa.LChain
