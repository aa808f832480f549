/- Logs, plainly: the entries of a log, by the program and by the reference. -/
import Derived.Test.YtnkkgeglnmggpaaLChain
import Derived.Test.YtnkkgeglnmggpaaPCpx3
import Derived.Test.YtnkkgeglnmggpaaPCpx5
namespace Go.Proofs.Ytnkkgeglnmggpaa.LChain
open Go.RowKit Go.Proofs.Ytnkkgeglnmggpaa.PCp Go.Proofs.YtnkkgeglnmggpaaW.PrintWords Go.Proofs.YtnkkgeglnmggpaaW.PrintLast Go.Proofs.YtnkkgeglnmggpaaW.PrintMore
open LSame (Byt)
set_option linter.unusedVariables false
set_option linter.unusedSimpArgs false
/-- how many of the first frames have the right tags -/
noncomputable def goodS (key : List Int) : List Int → Int → List Fr → Nat
  | _, _, [] => 0
  | a, n, f :: F => if tagS key (msgS a n f.1.f0 f.1.f1).1 = f.2 then goodS key f.2 (n + 1) F + 1 else 0
def lastT : List Int → List Fr → List Int
  | a, [] => a
  | _, f :: F => lastT f.2 F
theorem goodS_le (key : List Int) : ∀ (F : List Fr) (a : List Int) (n : Int), goodS key a n F ≤ F.length
  | [], _, _ => Nat.le_refl _
  | f :: F, a, n => by
    rw [goodS]
    split
    · exact Nat.succ_le_succ (goodS_le key F _ _)
    · exact Nat.zero_le _
theorem msgS_byt (ahead : List Int) (n : Int) (f : Fr) (hf : FrOk f) (ha : Byt ahead) (hal : ahead.length = 32) : Byt (msgS ahead n f.1.f0 f.1.f1).1 ∧ (msgS ahead n f.1.f0 f.1.f1).1.length ≤ 2000 ∧ (msgS ahead n f.1.f0 f.1.f1).2 = 0 := by
  rw [msgS_ok ahead n _ _ hal hf.k1 hf.k2 hf.b]
  have h1 := hf.k1
  have h2 := hf.k2
  have h3 := hf.b
  have h8 : (LTail.be8 n).length = 8 := rfl
  exact ⟨(ha.append (LTail.be8_byt n)).append (Byt.cons (by omega) (by omega) hf.bb), by simp only [List.length_append, List.length_cons, h8]; omega, rfl⟩
theorem lastT_byt : ∀ (F : List Fr) (a : List Int), Byt a → (∀ f ∈ F, FrOk f) → Byt (lastT a F)
  | [], _, h, _ => h
  | f :: F, _, _, h => lastT_byt F f.2 (h f List.mem_cons_self).tb (fun g hg => h g (List.mem_cons_of_mem _ hg))
theorem lastT_len : ∀ (F : List Fr) (a : List Int), a.length = 32 → (∀ f ∈ F, FrOk f) → (lastT a F).length = 32
  | [], _, h, _ => h
  | f :: F, _, _, h => lastT_len F f.2 (h f List.mem_cons_self).t (fun g hg => h g (List.mem_cons_of_mem _ hg))
theorem u64mod (n : Int) (h0 : 0 ≤ n) (h1 : n < 18446744073709551616) : n % 18446744073709551616 = n := by omega
/-- along a log: the entries, the last tag -/
theorem along_ev (key log : List Int) (hk : Byt key) (hkl : key.length ≤ 1000) (hB : Byt log) (hl : log.length ≤ 1000000) :
    ∀ (N : Nat) (a : Int) (ahead : List Int) (n : Int) (out : List S42) (last : List Int), (log.length : Int) - a < N → 0 ≤ a → a ≤ (log.length : Int) → ahead.length = 32 → Byt ahead → 0 ≤ n → n ≤ 1000000 + a → out.length ≤ a →
    ∃ r, Ev (fun m => chain_along.l (chain_Entries.see key) m log (out, last) ahead a n) r ∧ r.2 = (if goodS key ahead n (frs log N a).1 < (frs log N a).1.length then 29 else (frs log N a).2) ∧ (r.2 = 0 → r.1 = (out ++ (frs log N a).1.map (·.1), lastT last (frs log N a).1))
  | 0, a, ahead, n, out, last => fun h h0 h1 _ _ _ _ _ => by omega
  | N + 1, a, ahead, n, out, last => fun hN h0 h1 hal hab hn0 hn1 ho => by
    by_cases h2 : a < (log.length : Int)
    · obtain ⟨R, hR, _, _⟩ := LEnt.read_both log hB (by omega) a
      have hq : frs log (N + 1) a = if R.2.2.2.2 = 0 then ((⟨R.1, R.2.1⟩, R.2.2.1) :: (frs log N R.2.2.2.1).1, (frs log N R.2.2.2.1).2) else ([], R.2.2.2.2) := by rw [frs, hR, if_pos h2]
      by_cases h3 : R.2.2.2.2 = 0
      · obtain ⟨hf, _, g1, g2⟩ := read_fine log hB (by omega) a R hR h3
        rw [if_pos h3] at hq
        obtain ⟨mb, ml, m0⟩ := msgS_byt ahead n _ hf hab hal
        simp only at mb ml m0
        have hm := message_ev ahead n hn0 (by omega) R.1 R.2.1
        obtain ⟨tl, tb, te, _⟩ := tagS_spec key _ hk hkl mb (by omega)
        have hs := LSame.hsame_ev (tagS key (msgS ahead n R.1 R.2.1).1) R.2.2.1 (by omega) tb hf.tb
        by_cases h4 : tagS key (msgS ahead n R.1 R.2.1).1 = R.2.2.1
        · rw [decide_eq_true h4] at hs
          obtain ⟨r, e1, e2, e3⟩ := along_ev key log hk hkl hB hl N R.2.2.2.1 R.2.2.1 (n + 1) (out ++ [⟨R.1, R.2.1⟩]) R.2.2.1 (by omega) (by omega) g2 hf.t hf.tb (by omega) (by omega) (by simp; omega)
          refine ⟨r, ?_, ?_, fun h => ?_⟩
          · refine Ev.step (fun m => chain_along.l.eq_2 ..) (LEv.pos h2 (LEv.eqb hR (LEv.pos h3 (LEv.bd _ hm (LEv.pos m0 (LEv.bd ((out ++ [⟨R.1, R.2.1⟩], R.2.2.1), 0) ?_ (LEv.pos rfl ?_)))))))
            · exact Ev.congr (fun m => chain_Entries.see.eq_1 ..) (LEv.bd _ te (LEv.bd _ hs (LEv.pos rfl (LEv.pos (by simp; omega) (Ev.now _)))))
            · rw [u64mod (n + 1) (by omega) (by omega)]
              exact e1
          · rw [e2, hq]
            simp only [goodS, h4, if_true, List.length_cons]
            by_cases hg : goodS key R.2.2.1 (n + 1) (frs log N R.2.2.2.1).1 < (frs log N R.2.2.2.1).1.length
            · rw [if_pos hg, if_pos (by omega)]
            · rw [if_neg hg, if_neg (by omega)]
          · rw [e3 h, hq]
            simp [lastT]
        · rw [decide_eq_false h4] at hs
          refine ⟨((out, last), 29), ?_, ?_, fun h => by simp at h⟩
          · refine Ev.step (fun m => chain_along.l.eq_2 ..) (LEv.pos h2 (LEv.eqb hR (LEv.pos h3 (LEv.bd _ hm (LEv.pos m0 (LEv.bd ((out, last), 29) ?_ (LEv.neg (by simp) (Ev.now _))))))))
            exact Ev.congr (fun m => chain_Entries.see.eq_1 ..) (LEv.bd _ te (LEv.bd _ hs (LEv.neg (by decide) (Ev.now _))))
          · rw [hq]
            simp only [goodS, h4, if_false, List.length_cons]
            rw [if_pos (by omega)]
      · rw [if_neg h3] at hq
        refine ⟨((out, last), R.2.2.2.2), ?_, ?_, fun h => absurd h h3⟩
        · exact Ev.step (fun m => chain_along.l.eq_2 ..) (LEv.pos h2 (LEv.eqb hR (LEv.neg h3 (Ev.now _))))
        · rw [hq]
          simp [goodS]
    · have hq : frs log (N + 1) a = ([], 0) := by rw [frs, if_neg h2]
      refine ⟨((out, last), 0), Ev.step (fun m => chain_along.l.eq_2 ..) (LEv.neg h2 (Ev.now _)), by rw [hq]; simp [goodS], fun _ => by rw [hq]; simp [lastT]⟩
def zeroT : List Int := List.replicate 32 0
theorem zeroT_byt : Byt zeroT := Byt.zeros _
theorem zeroT_len : zeroT.length = 32 := List.length_replicate ..
theorem first_ok : chain_First.f = some zeroT := rfl
theorem rfirst_ok : notaryref47_First.f = some zeroT := rfl
abbrev frsOf (log : List Int) : List Fr × Int := frs log (log.length + 1) 0
/-- the entries of a log, its last tag; or what is wrong -/
noncomputable def entS (key log : List Int) : List S42 × List Int × Int :=
  if goodS key zeroT 1 (frsOf log).1 < (frsOf log).1.length then ([], [], 29) else if (frsOf log).2 = 0 then ((frsOf log).1.map (·.1), lastT zeroT (frsOf log).1, 0) else ([], [], (frsOf log).2)
theorem entries_ev (key log : List Int) (hk : Byt key) (hkl : key.length ≤ 1000) (hB : Byt log) (hl : log.length ≤ 1000000) : Ev (fun m => chain_Entries.f m key log) (entS key log) := by
  obtain ⟨r, e1, e2, e3⟩ := along_ev key log hk hkl hB hl (log.length + 1) 0 zeroT 1 [] zeroT (by omega) (by omega) (by omega) zeroT_len zeroT_byt (by omega) (by omega) (by simp)
  refine Ev.congr (fun m => chain_Entries.f.eq_1 ..) (LEv.eqb first_ok (LEv.bd r (Ev.congr (fun m => chain_along.f.eq_1 ..) (LEv.eqb first_ok e1)) ?_))
  by_cases h0 : r.2 = 0
  · refine LEv.pos h0 (LEv.fin ?_)
    rw [e3 h0]
    rw [h0] at e2
    unfold entS
    by_cases hg : goodS key zeroT 1 (frsOf log).1 < (frsOf log).1.length
    · rw [if_pos hg] at e2
      simp at e2
    · rw [if_neg hg] at e2
      rw [if_neg hg, if_pos e2.symm]
      simp
  · refine LEv.neg h0 (LEv.fin ?_)
    unfold entS
    by_cases hg : goodS key zeroT 1 (frsOf log).1 < (frsOf log).1.length
    · rw [if_pos hg] at e2 ⊢
      rw [e2]
    · rw [if_neg hg] at e2 ⊢
      rw [if_neg (by rw [← e2]; exact h0), e2]
theorem rd_ent (pre : List Fr) (f : Fr) (F : List Fr) : rd_T42 ((pre ++ f :: F).map (·.1)) (pre.length : Int) = f.1 := by
  unfold rd_T42
  rw [Int.toNat_natCast, List.getD_eq_getElem?_getD, List.getElem?_map, List.getElem?_append_right (Nat.le_refl _)]
  simp
theorem rd_tag (pre : List Fr) (f : Fr) (F : List Fr) : ((pre ++ f :: F).map (·.2)).getD (pre.length : Int).toNat [] = f.2 := by
  rw [Int.toNat_natCast, List.getD_eq_getElem?_getD, List.getElem?_map, List.getElem?_append_right (Nat.le_refl _)]
  simp
theorem lastT_getD (F : List Fr) (a : List Int) (h : F.length ≠ 0) : (F.map (·.2)).getD (F.length - 1) [] = lastT a F := by
  induction F generalizing a with
  | nil => simp at h
  | cons f F ih =>
    rw [lastT]
    cases F with
    | nil => simp [lastT]
    | cons g G =>
      have := ih f.2 (by simp)
      simp only [List.map_cons, List.length_cons] at this ⊢
      rw [← this]
      simp
/-- what is told of a log is fine -/
theorem entS_fine (key log : List Int) (hB : Byt log) (hl : log.length ≤ 1000000) : (∀ e ∈ (entS key log).1, e.f1.length ≤ 1024) ∧ (entS key log).1.length ≤ 1000000 ∧ Byt (entS key log).2.1 ∧ (entS key log).2.1.length ≤ 32 := by
  have hF : ∀ f ∈ (frsOf log).1, FrOk f := frs_ok log hB (by omega) (log.length + 1) 0
  have hlen : 0 + 36 * ((frsOf log).1.length : Int) ≤ (log.length : Int) := frs_len log hB (by omega) (log.length + 1) 0 (by omega) (by omega)
  unfold entS
  split
  · exact ⟨fun e he => absurd he List.not_mem_nil, Nat.zero_le _, Byt.nil, Nat.zero_le _⟩
  · split
    · refine ⟨fun e he => ?_, by simp; omega, lastT_byt _ _ zeroT_byt hF, by rw [lastT_len _ _ zeroT_len hF]; exact Nat.le_refl _⟩
      obtain ⟨f, hf, rfl⟩ := List.mem_map.1 he
      exact (hF f hf).b
    · exact ⟨fun e he => absurd he List.not_mem_nil, Nat.zero_le _, Byt.nil, Nat.zero_le _⟩
theorem rd_suf (pre : List S42) (e : S42) (L : List S42) : rd_T42 (pre ++ e :: L) (pre.length : Int) = e := by
  unfold rd_T42
  rw [Int.toNat_natCast, List.getD_eq_getElem?_getD, List.getElem?_append_right (Nat.le_refl _)]
  simp
end Go.Proofs.Ytnkkgeglnmggpaa.LChain
