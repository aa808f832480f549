/- Entries, plainly: what is read, by both. -/
import Derived.Test.YtogjnipojakfjaaLEnt
import Derived.Test.YtogjnipojakfjaaLSame
import Derived.Test.YtogjnipojakfjaaPJdx1
import Derived.Test.YtogjnipojakfjaaPJdx9
import Derived.Test.YtogjnipojakfjaaPJdx10
import Derived.Test.YtogjnipojakfjaaPJdx12
namespace Go.Proofs.Ytogjnipojakfjaa.LEnt
open Go.RowKit Go.Proofs.Ytogjnipojakfjaa.PJd Go.Proofs.YtogjnipojakfjaaW.PrintWords Go.Proofs.YtogjnipojakfjaaW.PrintLast Go.Proofs.YtogjnipojakfjaaW.PrintMore
set_option linter.unusedVariables false
set_option linter.unusedSimpArgs false
abbrev Rec := Int × List Int × List Int × Int × Int
theorem round (l : List Int) (hB : LSame.Byt l) (i j : Nat) (x : Int) (hx0 : 0 ≤ x) (hx1 : x < 4294967296) (hj : j < 4) (hi : i + 4 ≤ l.length) (hl : l.length < 140737488355328) (s : Int) (R : Rec) (k : Ev (fun m => notaryref46_Read.l0 m l (i : Int) (x * 256 + rd l ((i + j : Nat) : Int)) ((j + 1 : Nat) : Int) s) R) : Ev (fun m => notaryref46_Read.l0 m l (i : Int) x (j : Int) s) R := by
  have hw : wrap64 ((i : Int) + (j : Int)) = ((i + j : Nat) : Int) := by rw [LEv.w64 _ (by omega) (by omega)]; omega
  have hb := rd_nat l hB (i + j) (by omega)
  have hw2 : wrap64 (x * 256) = x * 256 := LEv.w64 _ (by omega) (by omega)
  have hw3 : wrap64 (rd l ((i + j : Nat) : Int)) = rd l ((i + j : Nat) : Int) := LEv.w64 _ (by omega) (by omega)
  have hw4 : wrap64 (x * 256 + rd l ((i + j : Nat) : Int)) = x * 256 + rd l ((i + j : Nat) : Int) := LEv.w64 _ (by omega) (by omega)
  have hw5 : wrap64 ((j : Int) + 1) = ((j + 1 : Nat) : Int) := by rw [LEv.w64 _ (by omega) (by omega)]; omega
  refine Ev.step (fun m => notaryref46_Read.l0.eq_2 ..) (LEv.pos (by omega) (LEv.pos (by rw [hw]; omega) (LEv.pos (by rw [hw]; omega) ?_)))
  rw [hw, hw2, hw3, hw4, hw5]
  exact k
theorem rounds4 (l : List Int) (hB : LSame.Byt l) (i : Nat) (hi : i + 4 ≤ l.length) (hl : l.length < 140737488355328) (s : Int) (R : Rec) (k : Ev (fun m => notaryref46_Read.l0 m l (i : Int) (entry_Read.n l i) 4 s) R) : Ev (fun m => notaryref46_Read.l0 m l (i : Int) 0 0 s) R := by
  have b0 := rd_nat l hB (i + 0) (by omega)
  have b1 := rd_nat l hB (i + 1) (by omega)
  have b2 := rd_nat l hB (i + 2) (by omega)
  have b3 := rd_nat l hB (i + 3) (by omega)
  have hn : (((0 * 256 + rd l ((i + 0 : Nat) : Int)) * 256 + rd l ((i + 1 : Nat) : Int)) * 256 + rd l ((i + 2 : Nat) : Int)) * 256 + rd l ((i + 3 : Nat) : Int) = entry_Read.n l i := by
    unfold entry_Read.n entry_number.of
    rw [show ((i + 0 : Nat) : Int) = (i : Int) from rfl]
    omega
  refine round l hB i 0 0 (by omega) (by omega) (by omega) hi hl s R ?_
  refine round l hB i 1 _ (by omega) (by omega) (by omega) hi hl s R ?_
  refine round l hB i 2 _ (by omega) (by omega) (by omega) hi hl s R ?_
  refine round l hB i 3 _ (by omega) (by omega) (by omega) hi hl s R ?_
  rw [hn]
  exact k
theorem n_range (l : List Int) (hB : LSame.Byt l) (i : Nat) (hi : i + 4 ≤ l.length) : 0 ≤ entry_Read.n l i ∧ entry_Read.n l i < 4294967296 := by
  have b0 := rd_nat l hB i (by omega)
  have b1 := rd_nat l hB (i + 1) (by omega)
  have b2 := rd_nat l hB (i + 2) (by omega)
  have b3 := rd_nat l hB (i + 3) (by omega)
  unfold entry_Read.n entry_number.of
  omega
theorem byt4 (l : List Int) (hB : LSame.Byt l) (i : Nat) (hi : i + 4 ≤ l.length) : entry_Read.byt (rd l (i : Int)) ∧ entry_Read.byt (rd l ((i + 1 : Nat) : Int)) ∧ entry_Read.byt (rd l ((i + 2 : Nat) : Int)) ∧ entry_Read.byt (rd l ((i + 3 : Nat) : Int)) :=
  ⟨rd_nat l hB i (by omega), rd_nat l hB (i + 1) (by omega), rd_nat l hB (i + 2) (by omega), rd_nat l hB (i + 3) (by omega)⟩
theorem cut5 (l : List Int) (i m : Nat) (h : i + 4 + (m + 1) + 32 ≤ l.length) : [rd l (i : Int), rd l ((i + 1 : Nat) : Int), rd l ((i + 2 : Nat) : Int), rd l ((i + 3 : Nat) : Int)] ++ (rd l ((i + 4 : Nat) : Int) :: (l.take (i + 4 + (m + 1))).drop (i + 5)) ++ (l.take (i + 4 + (m + 1) + 32)).drop (i + 4 + (m + 1)) = (l.take (i + 4 + (m + 1) + 32)).drop i := by
  have hd : ∀ j, j < l.length → l.drop j = rd l (j : Int) :: l.drop (j + 1) := fun j hj => by rw [LSame.rd_at l j hj]; exact List.drop_eq_getElem_cons hj
  rw [List.drop_take, List.drop_take, List.drop_take, hd i (by omega), hd (i + 1) (by omega), hd (i + 2) (by omega), hd (i + 3) (by omega), hd (i + 4) (by omega)]
  rw [show i + 4 + (m + 1) + 32 - i = m + 32 + 1 + 1 + 1 + 1 + 1 by omega, show i + 4 + (m + 1) - (i + 5) = m by omega, show i + 4 + (m + 1) + 32 - (i + 4 + (m + 1)) = 32 by omega]
  simp only [List.take_succ_cons, List.cons_append, List.nil_append]
  rw [show i + 4 + (m + 1) = i + 4 + 1 + m by omega, List.take_add, List.drop_drop]
/-- what the program reads, and that the reference reads it too -/
theorem read_both (l : List Int) (hB : LSame.Byt l) (hl : l.length < 140737488355328) (a : Int) : ∃ R : Rec, entry_Read.f l a = some R ∧ Ev (fun m => notaryref46_Read.f m l a) R ∧ (R.2.2.2.2 = 0 → 0 ≤ a ∧ a ≤ R.2.2.2.1 ∧ R.2.2.2.1 ≤ (l.length : Int) ∧ frS R.1 R.2.1 R.2.2.1 = ((l.take R.2.2.2.1.toNat).drop a.toNat, 0)) := by
  unfold entry_Read.f
  rw [if_pos hl]
  by_cases h1 : a < 0 ∨ (l.length : Int) < a
  · rw [if_pos h1]
    refine ⟨_, rfl, ?_, fun h => by simp at h⟩
    have j : Ev (fun m => notaryref46_Read.j0 m l a true 0) (0, [], [], 0, 13) := Ev.step (fun m => notaryref46_Read.j0.eq_2 ..) (LEv.pos rfl (Ev.now _))
    refine Ev.congr (fun m => notaryref46_Read.f.eq_1 ..) ?_
    by_cases h2 : a < 0
    · exact LEv.pos h2 j
    · refine LEv.neg h2 ?_
      rw [decide_eq_true (show a > (l.length : Int) by omega)]
      exact j
  · rw [if_neg h1]
    obtain ⟨i, rfl⟩ : ∃ i : Nat, a = (i : Int) := ⟨a.toNat, by omega⟩
    have start : ∀ R : Rec, Ev (fun m => if (wrap64 ((l.length : Int) - (i : Int))) < 4 then some (0, [], [], 0, 1) else notaryref46_Read.l0 m l (i : Int) 0 0 0) R → Ev (fun m => notaryref46_Read.f m l (i : Int)) R := fun R k => by
      refine Ev.congr (fun m => notaryref46_Read.f.eq_1 ..) (LEv.neg (by omega) ?_)
      rw [decide_eq_false (show ¬ (i : Int) > (l.length : Int) by omega)]
      exact Ev.step (fun m => notaryref46_Read.j0.eq_2 ..) (LEv.neg (by simp) k)
    have hwl : wrap64 ((l.length : Int) - (i : Int)) = (l.length : Int) - (i : Int) := LEv.w64 _ (by omega) (by omega)
    rw [hwl] at start
    by_cases h4 : (l.length : Int) - (i : Int) < 4
    · rw [if_pos h4]
      exact ⟨_, rfl, start _ (LEv.pos h4 (Ev.now _)), fun h => by simp at h⟩
    · rw [if_neg h4, Int.toNat_natCast]
      have hi : i + 4 ≤ l.length := by omega
      have hn := n_range l hB i hi
      have start2 : ∀ R : Rec, Ev (fun m => notaryref46_Read.l0 m l (i : Int) (entry_Read.n l i) 4 0) R → Ev (fun m => notaryref46_Read.f m l (i : Int)) R := fun R k => start R (LEv.neg h4 (rounds4 l hB i hi hl 0 R k))
      clear start
      have hnd : entry_number.of (rd l (i : Int)) (rd l ((i + 1 : Nat) : Int)) (rd l ((i + 2 : Nat) : Int)) (rd l ((i + 3 : Nat) : Int)) = entry_Read.n l i := rfl
      unfold entry_Read.g
      rw [if_pos (byt4 l hB i hi)]
      obtain ⟨n, hnn⟩ : ∃ n, n = entry_Read.n l i := ⟨_, rfl⟩
      rw [← hnn] at start2 hn hnd ⊢
      by_cases c0 : n = 0
      · rw [if_pos c0]
        exact ⟨_, rfl, start2 _ (Ev.step (fun m => notaryref46_Read.l0.eq_2 ..) (LEv.neg (by omega) (LEv.pos c0 (Ev.now _)))), fun h => by simp at h⟩
      rw [if_neg c0]
      by_cases c1 : 1025 < n
      · rw [if_pos c1]
        exact ⟨_, rfl, start2 _ (Ev.step (fun m => notaryref46_Read.l0.eq_2 ..) (LEv.neg (by omega) (LEv.neg c0 (LEv.pos c1 (Ev.now _))))), fun h => by simp at h⟩
      rw [if_neg c1]
      have hw1 : wrap64 (wrap64 (4 + n) + 32) = 36 + n := by rw [LEv.w64 (4 + n) (by omega) (by omega), LEv.w64 _ (by omega) (by omega)]; omega
      by_cases c2 : (l.length : Int) - (i : Int) - 4 < n + 32
      · rw [if_pos c2]
        exact ⟨_, rfl, start2 _ (Ev.step (fun m => notaryref46_Read.l0.eq_2 ..) (LEv.neg (by omega) (LEv.neg c0 (LEv.neg c1 (LEv.pos (by rw [hwl, hw1]; omega) (Ev.now _)))))), fun h => by simp at h⟩
      rw [if_neg c2]
      have h5 : i + 4 < l.length := by omega
      have b4 := rd_nat l hB (i + 4) h5
      rw [if_pos (show entry_Read.byt (rd l ((i + 4 : Nat) : Int)) from b4)]
      have hw4 : wrap64 ((i : Int) + 4) = ((i + 4 : Nat) : Int) := by rw [LEv.w64 _ (by omega) (by omega)]; omega
      obtain ⟨kb, hkb⟩ : ∃ kb, kb = rd l ((i + 4 : Nat) : Int) := ⟨_, rfl⟩
      rw [← hkb] at b4 ⊢
      have start3 : ∀ R : Rec, Ev _ R → Ev (fun m => notaryref46_Read.f m l (i : Int)) R := fun R k => start2 R (Ev.step (fun m => notaryref46_Read.l0.eq_2 ..) (LEv.neg (by omega) (LEv.neg c0 (LEv.neg c1 (LEv.neg (by rw [hwl, hw1]; omega) (LEv.pos (by rw [hw4]; omega) (LEv.pos (by rw [hw4]; omega) k)))))))
      rw [hw4, ← hkb] at start3
      by_cases c3 : 1 ≤ kb ∧ kb ≤ 3
      case neg =>
        rw [if_neg c3]
        refine ⟨_, rfl, start3 _ ?_, fun h => by simp at h⟩
        by_cases c4 : kb < 1
        · exact LEv.pos c4 (Ev.now _)
        · exact LEv.neg c4 (LEv.pos (by omega) (Ev.now _))
      rw [if_pos c3]
      obtain ⟨m, rfl⟩ : ∃ m : Nat, n = ((m + 1 : Nat) : Int) := ⟨(n - 1).toNat, by omega⟩
      have hroom : i + 4 + (m + 1) + 32 ≤ l.length := by omega
      simp only [Int.toNat_natCast]
      refine ⟨_, rfl, start3 _ ?_, fun _ => ?_⟩
      · clear start2 start3 hwl hw1 hw4 hnd hnn c2 hB h1 h4 c0 c1 hn
        have hw5 : wrap64 ((i : Int) + 5) = ((i + 5 : Nat) : Int) := by rw [LEv.w64 _ (by omega) (by omega)]; omega
        have hw6 : wrap64 (((i + 4 : Nat) : Int) + ((m + 1 : Nat) : Int)) = ((i + 4 + (m + 1) : Nat) : Int) := by rw [LEv.w64 _ (by omega) (by omega)]; omega
        have hw7 : wrap64 ((i : Int) + 36) = ((i + 36 : Nat) : Int) := by rw [LEv.w64 _ (by omega) (by omega)]; omega
        have hw8 : wrap64 (((i + 36 : Nat) : Int) + ((m + 1 : Nat) : Int)) = ((i + 4 + (m + 1) + 32 : Nat) : Int) := by rw [LEv.w64 _ (by omega) (by omega)]; omega
        have hw9 : wrap64 kb = kb := LEv.w64 _ (by omega) (by omega)
        rw [hw5, hw6, hw7, hw8, hw9]
        clear hw5 hw6 hw7 hw8 hw9
        simp only [Int.toNat_natCast]
        refine LEv.neg (by omega) (LEv.neg (by omega) (LEv.sb (LEv.pos (by omega) (LEv.pos (by omega) (LEv.pos (by omega) (LEv.pos (by rw [List.length_drop, List.length_take]; simp; omega) (LEv.sb (LEv.pos (by omega) (LEv.pos (by omega) (LEv.pos (by omega) (LEv.pos (by rw [List.length_drop, List.length_take]; simp; omega) (LEv.fin ?_))))))))))))
        rw [List.nil_append, List.nil_append, show ((i + 4 + (m + 1) + 32 : Nat) : Int) = (i : Int) + 4 + ((m + 1 : Nat) : Int) + 32 by omega]
      · clear start2 start3 hwl hw1 hw4 hnn c2 h1 h4 c0 hn
        refine ⟨by omega, by show (i : Int) ≤ (i : Int) + 4 + ((m + 1 : Nat) : Int) + 32; omega, by show (i : Int) + 4 + ((m + 1 : Nat) : Int) + 32 ≤ _; omega, ?_⟩
        show frS kb _ _ = (((l.take ((i : Int) + 4 + ((m + 1 : Nat) : Int) + 32).toNat).drop _), 0)
        rw [frS_mk kb _ _ c3.1 c3.2 (by rw [List.length_drop, List.length_take]; omega) (by rw [List.length_drop, List.length_take]; omega)]
        rw [show ((i : Int) + 4 + ((m + 1 : Nat) : Int) + 32).toNat = i + 4 + (m + 1) + 32 by omega, show ((l.take (i + 4 + (m + 1))).drop (i + 5)).length + 1 = m + 1 by rw [List.length_drop, List.length_take]; omega]
        congr 1
        have b0 := rd_nat l hB i (by omega)
        have b1 := rd_nat l hB (i + 1) (by omega)
        have b2 := rd_nat l hB (i + 2) (by omega)
        have b3 := rd_nat l hB (i + 3) (by omega)
        have hbytes : entry_length.bytes ((m + 1 : Nat) : Int) = [rd l (i : Int), rd l ((i + 1 : Nat) : Int), rd l ((i + 2 : Nat) : Int), rd l ((i + 3 : Nat) : Int)] := by
          unfold entry_length.bytes
          unfold entry_number.of at hnd
          have e0 : ((m + 1 : Nat) : Int) / 16777216 = rd l (i : Int) := by omega
          have e1 : ((m + 1 : Nat) : Int) / 65536 = rd l ((i + 1 : Nat) : Int) := by omega
          have e2 : ((m + 1 : Nat) : Int) / 256 % 256 = rd l ((i + 2 : Nat) : Int) := by omega
          have e3 : ((m + 1 : Nat) : Int) % 256 = rd l ((i + 3 : Nat) : Int) := by omega
          rw [e0, e1, e2, e3]
        rw [hbytes, hkb]
        exact cut5 l i m hroom
end Go.Proofs.Ytogjnipojakfjaa.LEnt
