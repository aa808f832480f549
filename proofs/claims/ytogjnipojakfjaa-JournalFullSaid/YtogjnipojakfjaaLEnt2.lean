/- Entries, plainly: what is read, by both. -/
import Derived.Test.YtogjnipojakfjaaLEnt
import Derived.Test.YtogjnipojakfjaaLSame
import Derived.Test.YtogjnipojakfjaaPJnx1
import Derived.Test.YtogjnipojakfjaaPJnx4
import Derived.Test.YtogjnipojakfjaaPJnx5
namespace Go.Proofs.Ytogjnipojakfjaa.LEnt
open Go.RowKit Go.Proofs.Ytogjnipojakfjaa.PJn Go.Proofs.YtogjnipojakfjaaW.PrintWords Go.Proofs.YtogjnipojakfjaaW.PrintLast Go.Proofs.YtogjnipojakfjaaW.PrintMore
set_option linter.unusedVariables false
set_option linter.unusedSimpArgs false
abbrev Rec := Int × List Int × List Int × Int × Int
theorem n_range (l : List Int) (hB : LSame.Byt l) (i : Nat) (hi : i + 4 ≤ l.length) : 0 ≤ entry_Read.n l i ∧ entry_Read.n l i < 4294967296 := by
  have b0 := rd_nat l hB i (by omega)
  have b1 := rd_nat l hB (i + 1) (by omega)
  have b2 := rd_nat l hB (i + 2) (by omega)
  have b3 := rd_nat l hB (i + 3) (by omega)
  unfold entry_Read.n entry_number.of
  omega
theorem byt4 (l : List Int) (hB : LSame.Byt l) (i : Nat) (hi : i + 4 ≤ l.length) : entry_Read.byt (rd l (i : Int)) ∧ entry_Read.byt (rd l ((i + 1 : Nat) : Int)) ∧ entry_Read.byt (rd l ((i + 2 : Nat) : Int)) ∧ entry_Read.byt (rd l ((i + 3 : Nat) : Int)) :=
  ⟨rd_nat l hB i (by omega), rd_nat l hB (i + 1) (by omega), rd_nat l hB (i + 2) (by omega), rd_nat l hB (i + 3) (by omega)⟩
theorem cut5 (l : List Int) (i m : Nat) (h : i + 4 + (m + 1) + 32 ≤ l.length) : [rd l (i : Int), rd l ((i + 1 : Nat) : Int), rd l ((i + 2 : Nat) : Int), rd l ((i + 3 : Nat) : Int)] ++ (rd l ((i + 4 : Nat) : Int) :: (l.take (i + 4 + (m + 1))).drop (i + 5)) ++ (l.take (i + 4 + (m + 1) + 32)).drop (i + 4 + (m + 1)) = (l.take (i + 4 + (m + 1) + 32)).drop i := by
  have hd : ∀ j, j < l.length → l.drop j = rd l (j : Int) :: l.drop (j + 1) := fun j hj => by rw [LSame.rd_at l j hj]; exact List.drop_eq_getElem_cons hj
  rw [List.drop_take, List.drop_take, List.drop_take, hd i (by omega), hd (i + 1) (by omega), hd (i + 2) (by omega), hd (i + 3) (by omega), hd (i + 4) (by omega)]
  rw [show i + 4 + (m + 1) + 32 - i = m + 32 + 1 + 1 + 1 + 1 + 1 by omega, show i + 4 + (m + 1) - (i + 5) = m by omega, show i + 4 + (m + 1) + 32 - (i + 4 + (m + 1)) = 32 by omega]
  simp only [List.take_succ_cons, List.cons_append, List.nil_append]
  rw [show i + 4 + (m + 1) = i + 4 + 1 + m by omega, List.take_add, List.drop_drop]
/-- what the program reads -/
theorem read_both (l : List Int) (hB : LSame.Byt l) (hl : l.length < 140737488355328) (a : Int) : ∃ R : Rec, entry_Read.f l a = some R ∧ True ∧ (R.2.2.2.2 = 0 → 0 ≤ a ∧ a ≤ R.2.2.2.1 ∧ R.2.2.2.1 ≤ (l.length : Int) ∧ frS R.1 R.2.1 R.2.2.1 = ((l.take R.2.2.2.1.toNat).drop a.toNat, 0)) := by
  unfold entry_Read.f
  rw [if_pos hl]
  by_cases h1 : a < 0 ∨ (l.length : Int) < a
  · rw [if_pos h1]
    exact ⟨_, rfl, trivial, fun h => by simp at h⟩
  · rw [if_neg h1]
    obtain ⟨i, rfl⟩ : ∃ i : Nat, a = (i : Int) := ⟨a.toNat, by omega⟩
    by_cases h4 : (l.length : Int) - (i : Int) < 4
    · rw [if_pos h4]
      exact ⟨_, rfl, trivial, fun h => by simp at h⟩
    · rw [if_neg h4, Int.toNat_natCast]
      have hi : i + 4 ≤ l.length := by omega
      have hn := n_range l hB i hi
      have hnd : entry_number.of (rd l (i : Int)) (rd l ((i + 1 : Nat) : Int)) (rd l ((i + 2 : Nat) : Int)) (rd l ((i + 3 : Nat) : Int)) = entry_Read.n l i := rfl
      unfold entry_Read.g
      rw [if_pos (byt4 l hB i hi)]
      obtain ⟨n, hnn⟩ : ∃ n, n = entry_Read.n l i := ⟨_, rfl⟩
      rw [← hnn] at hn hnd ⊢
      by_cases c0 : n = 0
      · rw [if_pos c0]
        exact ⟨_, rfl, trivial, fun h => by simp at h⟩
      rw [if_neg c0]
      by_cases c1 : 1025 < n
      · rw [if_pos c1]
        exact ⟨_, rfl, trivial, fun h => by simp at h⟩
      rw [if_neg c1]
      by_cases c2 : (l.length : Int) - (i : Int) - 4 < n + 32
      · rw [if_pos c2]
        exact ⟨_, rfl, trivial, fun h => by simp at h⟩
      rw [if_neg c2]
      have h5 : i + 4 < l.length := by omega
      have b4 := rd_nat l hB (i + 4) h5
      rw [if_pos (show entry_Read.byt (rd l ((i + 4 : Nat) : Int)) from b4)]
      obtain ⟨kb, hkb⟩ : ∃ kb, kb = rd l ((i + 4 : Nat) : Int) := ⟨_, rfl⟩
      rw [← hkb] at b4 ⊢
      by_cases c3 : 1 ≤ kb ∧ kb ≤ 3
      case neg =>
        rw [if_neg c3]
        exact ⟨_, rfl, trivial, fun h => by simp at h⟩
      rw [if_pos c3]
      obtain ⟨m, rfl⟩ : ∃ m : Nat, n = ((m + 1 : Nat) : Int) := ⟨(n - 1).toNat, by omega⟩
      have hroom : i + 4 + (m + 1) + 32 ≤ l.length := by omega
      simp only [Int.toNat_natCast]
      refine ⟨_, rfl, trivial, fun _ => ?_⟩
      clear hnn c2 h1 h4 c0 hn
      refine ⟨by omega, by show (i : Int) ≤ (i : Int) + 4 + ((m + 1 : Nat) : Int) + 32; omega, by show (i : Int) + 4 + ((m + 1 : Nat) : Int) + 32 ≤ _; omega, ?_⟩
      show frS kb _ _ = (((l.take ((i : Int) + 4 + ((m + 1 : Nat) : Int) + 32).toNat).drop _), 0)
      rw [frS_mk kb _ _ c3.1 c3.2 (by rw [List.length_drop, List.length_take]; omega) (by rw [List.length_drop, List.length_take]; omega)]
      rw [show ((i : Int) + 4 + ((m + 1 : Nat) : Int) + 32).toNat = i + 4 + (m + 1) + 32 by omega, show ((l.take (i + 4 + (m + 1))).drop (i + 5)).length + 1 = m + 1 by rw [List.length_drop, List.length_take]; omega]
      congr 1
      have b0 := rd_nat l hB i (by omega)
      have b1 := rd_nat l hB (i + 1) (by omega)
      have b2 := rd_nat l hB (i + 2) (by omega)
      have b3 := rd_nat l hB (i + 3) (by omega)
      have hbytes : entry_length.bytes ((m + 1 : Nat) : Int) = [rd l (i : Int), rd l ((i + 1 : Nat) : Int), rd l ((i + 2 : Nat) : Int), rd l ((i + 3 : Nat) : Int)] := by
        unfold entry_length.bytes
        unfold entry_number.of at hnd
        have e0 : ((m + 1 : Nat) : Int) / 16777216 = rd l (i : Int) := by omega
        have e1 : ((m + 1 : Nat) : Int) / 65536 = rd l ((i + 1 : Nat) : Int) := by omega
        have e2 : ((m + 1 : Nat) : Int) / 256 % 256 = rd l ((i + 2 : Nat) : Int) := by omega
        have e3 : ((m + 1 : Nat) : Int) % 256 = rd l ((i + 3 : Nat) : Int) := by omega
        rw [e0, e1, e2, e3]
      rw [hbytes, hkb]
      exact cut5 l i m hroom
end Go.Proofs.Ytogjnipojakfjaa.LEnt
