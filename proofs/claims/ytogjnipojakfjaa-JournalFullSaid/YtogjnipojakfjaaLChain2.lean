/- Logs, plainly: the entries of a log, by the program and by the reference. -/
import Derived.Test.YtogjnipojakfjaaLChain
import Derived.Test.YtogjnipojakfjaaPJnx3
import Derived.Test.YtogjnipojakfjaaPJnx5
namespace Go.Proofs.Ytogjnipojakfjaa.LChain
open Go.RowKit Go.Proofs.Ytogjnipojakfjaa.PJn Go.Proofs.YtogjnipojakfjaaW.PrintWords Go.Proofs.YtogjnipojakfjaaW.PrintLast Go.Proofs.YtogjnipojakfjaaW.PrintMore
open LSame (Byt)
set_option linter.unusedVariables false
set_option linter.unusedSimpArgs false
/-- how many of the first frames have the right tags -/
noncomputable def goodS (key : List Int) : List Int → Int → List Fr → Nat
  | _, _, [] => 0
  | a, n, f :: F => if tagS key (msgS a n f.1.f0 f.1.f1).1 = f.2 then goodS key f.2 (n + 1) F + 1 else 0
def lastT : List Int → List Fr → List Int
  | a, [] => a
  | _, f :: F => lastT f.2 F
theorem goodS_le (key : List Int) : ∀ (F : List Fr) (a : List Int) (n : Int), goodS key a n F ≤ F.length
  | [], _, _ => Nat.le_refl _
  | f :: F, a, n => by
    rw [goodS]
    split
    · exact Nat.succ_le_succ (goodS_le key F _ _)
    · exact Nat.zero_le _
theorem msgS_byt (ahead : List Int) (n : Int) (f : Fr) (hf : FrOk f) (ha : Byt ahead) (hal : ahead.length = 32) : Byt (msgS ahead n f.1.f0 f.1.f1).1 ∧ (msgS ahead n f.1.f0 f.1.f1).1.length ≤ 2000 ∧ (msgS ahead n f.1.f0 f.1.f1).2 = 0 := by
  rw [msgS_ok ahead n _ _ hal hf.k1 hf.k2 hf.b]
  have h1 := hf.k1
  have h2 := hf.k2
  have h3 := hf.b
  have h8 : (LTail.be8 n).length = 8 := rfl
  exact ⟨(ha.append (LTail.be8_byt n)).append (Byt.cons (by omega) (by omega) hf.bb), by simp only [List.length_append, List.length_cons, h8]; omega, rfl⟩
theorem lastT_byt : ∀ (F : List Fr) (a : List Int), Byt a → (∀ f ∈ F, FrOk f) → Byt (lastT a F)
  | [], _, h, _ => h
  | f :: F, _, _, h => lastT_byt F f.2 (h f List.mem_cons_self).tb (fun g hg => h g (List.mem_cons_of_mem _ hg))
theorem lastT_len : ∀ (F : List Fr) (a : List Int), a.length = 32 → (∀ f ∈ F, FrOk f) → (lastT a F).length = 32
  | [], _, h, _ => h
  | f :: F, _, _, h => lastT_len F f.2 (h f List.mem_cons_self).t (fun g hg => h g (List.mem_cons_of_mem _ hg))
theorem u64mod (n : Int) (h0 : 0 ≤ n) (h1 : n < 18446744073709551616) : n % 18446744073709551616 = n := by omega
def zeroT : List Int := List.replicate 32 0
theorem zeroT_byt : Byt zeroT := Byt.zeros _
theorem zeroT_len : zeroT.length = 32 := List.length_replicate ..
theorem first_ok : chain_First.f = some zeroT := rfl
theorem rfirst_ok : notaryref47_First.f = some zeroT := rfl
abbrev frsOf (log : List Int) : List Fr × Int := frs log (log.length + 1) 0
/-- the entries of a log, its last tag; or what is wrong -/
noncomputable def entS (key log : List Int) : List S35 × List Int × Int :=
  if goodS key zeroT 1 (frsOf log).1 < (frsOf log).1.length then ([], [], 29) else if (frsOf log).2 = 0 then ((frsOf log).1.map (·.1), lastT zeroT (frsOf log).1, 0) else ([], [], (frsOf log).2)
theorem rd_ent (pre : List Fr) (f : Fr) (F : List Fr) : rd_T35 ((pre ++ f :: F).map (·.1)) (pre.length : Int) = f.1 := by
  unfold rd_T35
  rw [Int.toNat_natCast, List.getD_eq_getElem?_getD, List.getElem?_map, List.getElem?_append_right (Nat.le_refl _)]
  simp
theorem rd_tag (pre : List Fr) (f : Fr) (F : List Fr) : ((pre ++ f :: F).map (·.2)).getD (pre.length : Int).toNat [] = f.2 := by
  rw [Int.toNat_natCast, List.getD_eq_getElem?_getD, List.getElem?_map, List.getElem?_append_right (Nat.le_refl _)]
  simp
theorem lastT_getD (F : List Fr) (a : List Int) (h : F.length ≠ 0) : (F.map (·.2)).getD (F.length - 1) [] = lastT a F := by
  induction F generalizing a with
  | nil => simp at h
  | cons f F ih =>
    rw [lastT]
    cases F with
    | nil => simp [lastT]
    | cons g G =>
      have := ih f.2 (by simp)
      simp only [List.map_cons, List.length_cons] at this ⊢
      rw [← this]
      simp
/-- what is told of a log is fine -/
theorem entS_fine (key log : List Int) (hB : Byt log) (hl : log.length ≤ 1000000) : (∀ e ∈ (entS key log).1, e.f1.length ≤ 1024) ∧ (entS key log).1.length ≤ 1000000 ∧ Byt (entS key log).2.1 ∧ (entS key log).2.1.length ≤ 32 := by
  have hF : ∀ f ∈ (frsOf log).1, FrOk f := frs_ok log hB (by omega) (log.length + 1) 0
  have hlen : 0 + 36 * ((frsOf log).1.length : Int) ≤ (log.length : Int) := frs_len log hB (by omega) (log.length + 1) 0 (by omega) (by omega)
  unfold entS
  split
  · exact ⟨fun e he => absurd he List.not_mem_nil, Nat.zero_le _, Byt.nil, Nat.zero_le _⟩
  · split
    · refine ⟨fun e he => ?_, by simp; omega, lastT_byt _ _ zeroT_byt hF, by rw [lastT_len _ _ zeroT_len hF]; exact Nat.le_refl _⟩
      obtain ⟨f, hf, rfl⟩ := List.mem_map.1 he
      exact (hF f hf).b
    · exact ⟨fun e he => absurd he List.not_mem_nil, Nat.zero_le _, Byt.nil, Nat.zero_le _⟩
theorem rd_suf (pre : List S35) (e : S35) (L : List S35) : rd_T35 (pre ++ e :: L) (pre.length : Int) = e := by
  unfold rd_T35
  rw [Int.toNat_natCast, List.getD_eq_getElem?_getD, List.getElem?_append_right (Nat.le_refl _)]
  simp
end Go.Proofs.Ytogjnipojakfjaa.LChain
