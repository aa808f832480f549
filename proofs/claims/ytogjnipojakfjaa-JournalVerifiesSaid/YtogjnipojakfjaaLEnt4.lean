/- Entries, plainly: a frame that is read back, whatever stands ahead and behind. -/
import Derived.Test.YtogjnipojakfjaaLEnt3
import Derived.Test.YtogjnipojakfjaaPJvx4
namespace Go.Proofs.Ytogjnipojakfjaa.LEnt
open Go.RowKit Go.Proofs.Ytogjnipojakfjaa.PJv Go.Proofs.YtogjnipojakfjaaW.PrintWords Go.Proofs.YtogjnipojakfjaaW.PrintLast Go.Proofs.YtogjnipojakfjaaW.PrintMore
set_option linter.unusedVariables false
set_option linter.unusedSimpArgs false
theorem rd_cons (pre : List Int) (x : Int) (rest : List Int) (j : Nat) (hj : j = pre.length) : rd (pre ++ x :: rest) (j : Int) = x := by
  subst hj
  unfold rd
  rw [Int.toNat_natCast, List.getD_eq_getElem?_getD, List.getElem?_append_right (Nat.le_refl _)]
  simp
/-- a frame, whatever stands ahead and behind -/
theorem read_frame (pre post : List Int) (k : Int) (b t : List Int) (hk1 : 1 ≤ k) (hk2 : k ≤ 3) (hb : b.length ≤ 1024) (ht : t.length = 32) (hp : pre.length + post.length < 100000000000) :
    entry_Read.f (pre ++ (entry_length.bytes ((b.length + 1 : Nat) : Int) ++ (k :: b) ++ t) ++ post) (pre.length : Int) = some (k, b, t, ((pre.length + (entry_length.bytes ((b.length + 1 : Nat) : Int) ++ (k :: b) ++ t).length : Nat) : Int), 0) := by
  obtain ⟨m, hm⟩ : ∃ m : Nat, m = b.length + 1 := ⟨_, rfl⟩
  rw [← hm]
  obtain ⟨l, hl⟩ : ∃ l, l = pre ++ (entry_length.bytes (m : Int) ++ (k :: b) ++ t) ++ post := ⟨_, rfl⟩
  rw [← hl]
  unfold entry_length.bytes at hl ⊢
  have hfl : ([(m : Int) / 16777216, (m : Int) / 65536, (m : Int) / 256 % 256, (m : Int) % 256] ++ (k :: b) ++ t).length = m + 36 := by simp; omega
  have hlen : l.length = pre.length + (m + 36) + post.length := by rw [hl, List.length_append, List.length_append, hfl]
  rw [hfl]
  have e0 : rd l ((pre.length : Nat) : Int) = (m : Int) / 16777216 := by rw [hl]; simp only [List.append_assoc, List.cons_append, List.nil_append]; exact rd_cons _ _ _ _ rfl
  have e1 : rd l ((pre.length + 1 : Nat) : Int) = (m : Int) / 65536 := by
    rw [hl, show pre ++ ([(m : Int) / 16777216, (m : Int) / 65536, (m : Int) / 256 % 256, (m : Int) % 256] ++ (k :: b) ++ t) ++ post = (pre ++ [(m : Int) / 16777216]) ++ (m : Int) / 65536 :: ([(m : Int) / 256 % 256, (m : Int) % 256] ++ (k :: b) ++ t ++ post) by simp]
    exact rd_cons _ _ _ _ (by simp)
  have e2 : rd l ((pre.length + 2 : Nat) : Int) = (m : Int) / 256 % 256 := by
    rw [hl, show pre ++ ([(m : Int) / 16777216, (m : Int) / 65536, (m : Int) / 256 % 256, (m : Int) % 256] ++ (k :: b) ++ t) ++ post = (pre ++ [(m : Int) / 16777216, (m : Int) / 65536]) ++ (m : Int) / 256 % 256 :: ([(m : Int) % 256] ++ (k :: b) ++ t ++ post) by simp]
    exact rd_cons _ _ _ _ (by simp)
  have e3 : rd l ((pre.length + 3 : Nat) : Int) = (m : Int) % 256 := by
    rw [hl, show pre ++ ([(m : Int) / 16777216, (m : Int) / 65536, (m : Int) / 256 % 256, (m : Int) % 256] ++ (k :: b) ++ t) ++ post = (pre ++ [(m : Int) / 16777216, (m : Int) / 65536, (m : Int) / 256 % 256]) ++ (m : Int) % 256 :: ((k :: b) ++ t ++ post) by simp]
    exact rd_cons _ _ _ _ (by simp)
  have e4 : rd l ((pre.length + 4 : Nat) : Int) = k := by
    rw [hl, show pre ++ ([(m : Int) / 16777216, (m : Int) / 65536, (m : Int) / 256 % 256, (m : Int) % 256] ++ (k :: b) ++ t) ++ post = (pre ++ [(m : Int) / 16777216, (m : Int) / 65536, (m : Int) / 256 % 256, (m : Int) % 256]) ++ k :: (b ++ t ++ post) by simp]
    exact rd_cons _ _ _ _ (by simp)
  have hn : entry_Read.n l pre.length = (m : Int) := by
    unfold entry_Read.n
    rw [e0, e1, e2, e3]
    exact number_bytes _ (by omega) (by omega)
  have c1 : (l.take (pre.length + 4 + m)).drop (pre.length + 5) = b := by
    rw [hl, show pre ++ ([(m : Int) / 16777216, (m : Int) / 65536, (m : Int) / 256 % 256, (m : Int) % 256] ++ (k :: b) ++ t) ++ post = (pre ++ [(m : Int) / 16777216, (m : Int) / 65536, (m : Int) / 256 % 256, (m : Int) % 256, k]) ++ (b ++ (t ++ post)) by simp]
    rw [List.drop_take, List.drop_append_of_le_length (by simp), List.drop_of_length_le (by simp), List.nil_append, show pre.length + 4 + m - (pre.length + 5) = b.length by omega, List.take_left']
    rfl
  have c2 : (l.take (pre.length + 4 + m + 32)).drop (pre.length + 4 + m) = t := by
    rw [hl, show pre ++ ([(m : Int) / 16777216, (m : Int) / 65536, (m : Int) / 256 % 256, (m : Int) % 256] ++ (k :: b) ++ t) ++ post = (pre ++ [(m : Int) / 16777216, (m : Int) / 65536, (m : Int) / 256 % 256, (m : Int) % 256, k] ++ b) ++ (t ++ post) by simp]
    rw [List.drop_take, List.drop_append_of_le_length (by simp; omega), List.drop_of_length_le (by simp; omega), List.nil_append, show pre.length + 4 + m + 32 - (pre.length + 4 + m) = t.length by omega, List.take_left']
    rfl
  unfold entry_Read.f
  rw [if_pos (by omega), if_neg (by omega), if_neg (by omega), Int.toNat_natCast]
  unfold entry_Read.g
  rw [hn, e0, e1, e2, e3, e4, if_pos (by unfold entry_Read.byt; omega), if_neg (by omega), if_neg (by omega), if_neg (by omega), if_pos (by unfold entry_Read.byt; omega), if_pos ⟨hk1, hk2⟩, Int.toNat_natCast, c1, c2]
  congr 5
  omega
end Go.Proofs.Ytogjnipojakfjaa.LEnt
