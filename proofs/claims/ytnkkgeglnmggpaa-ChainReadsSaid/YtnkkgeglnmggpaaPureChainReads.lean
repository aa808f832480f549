/- The law of what is read as a log, over numbers and lists alone. -/
import Derived.Test.YtnkkgeglnmggpaaLChain3
import Derived.Test.YtnkkgeglnmggpaaPCrx5
import Derived.Test.YtnkkgeglnmggpaaPCrx14
import Derived.Test.YtnkkgeglnmggpaaPCrx15
namespace Go.Proofs.Ytnkkgeglnmggpaa.LChain
open Go.RowKit Go.Proofs.Ytnkkgeglnmggpaa.PCr Go.Proofs.YtnkkgeglnmggpaaW.PrintWords Go.Proofs.YtnkkgeglnmggpaaW.PrintLast Go.Proofs.YtnkkgeglnmggpaaW.PrintMore
open LSame (Byt)
set_option linter.unusedVariables false
theorem reads_l0 (key log tag t : List Int) (hk : Byt key) (hkl : key.length ≤ 1000) (hB : Byt log) (hl : log.length ≤ 1000000) (ht : Byt tag) (ht2 : Byt t) : ∀ (d i : Nat), d + i = 3 → Ev (fun m => notarylaw47_ChainReads.l0 m key log tag t (i : Int)) true
  | 0, i => fun h => by
    obtain rfl : i = 3 := by omega
    exact Ev.step (fun m => notarylaw47_ChainReads.l0.eq_2 ..) (LEv.neg (by decide) awake_bind)
  | d + 1, i => fun h => by
    have hw : wrap64 ((i : Int) + 1) = ((i + 1 : Nat) : Int) := by rw [LEv.w64 _ (by omega) (by omega)]; omega
    refine Ev.step (fun m => notarylaw47_ChainReads.l0.eq_2 ..) (LEv.pos (by omega) (LEv.bd _ (verify_ev key log i tag hk hkl hB hl ht) (LEv.bd _ (rverify_ev key log i tag hk hkl hB hl) (LEv.neg (by simp) (LEv.bd _ (verify_ev key log i t hk hkl hB hl ht2) (LEv.bd _ (rverify_ev key log i t hk hkl hB hl) (LEv.neg (by simp) ?_)))))))
    rw [hw]
    exact reads_l0 key log tag t hk hkl hB hl ht ht2 d (i + 1) (by omega)
theorem ChainReads (key log tag : List Int) (hk : Byt key) (hB : Byt log) (ht : Byt tag) : Ev (fun m => notarylaw47_ChainReads.f m key log tag) true := by
  have big : Ev (fun m => notarylaw47_ChainReads.j0 m key log tag true) true := Ev.step (fun m => notarylaw47_ChainReads.j0.eq_2 ..) (LEv.pos rfl awake_bind)
  refine Ev.congr (fun m => notarylaw47_ChainReads.f.eq_1 ..) ?_
  by_cases h1 : (key.length : Int) > 200
  · exact LEv.pos h1 big
  refine LEv.neg h1 ?_
  by_cases h2 : (log.length : Int) > 3000
  · rw [decide_eq_true h2]
    exact big
  rw [decide_eq_false h2]
  obtain ⟨f1, f2, f3, f4⟩ := entS_fine key log hB (by omega)
  refine Ev.step (fun m => notarylaw47_ChainReads.j0.eq_2 ..) (LEv.neg (by decide) (LEv.bd _ (entries_ev key log hk (by omega) hB (by omega)) (LEv.bd _ (rentries_ev key log hk (by omega) hB (by omega)) (LEv.pos rfl (LEv.bd _ (alike_self _ f1 f2) (LEv.pos rfl (LEv.bd _ (LSame.same_self _ (by omega)) ?_)))))))
  exact Ev.step (fun m => notarylaw47_ChainReads.j1.eq_2 ..) (LEv.neg (by decide) (reads_l0 key log tag _ hk (by omega) hB (by omega) ht f3 3 0 rfl))
end Go.Proofs.Ytnkkgeglnmggpaa.LChain
