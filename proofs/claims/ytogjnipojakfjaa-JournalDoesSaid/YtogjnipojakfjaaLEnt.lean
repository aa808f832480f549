/- Entries, plainly: what the program's and the reference's functions answer. -/
import Derived.Test.YtogjnipojakfjaaLEv
import Derived.Test.YtogjnipojakfjaaLSame
import Derived.Test.YtogjnipojakfjaaPJdx1
import Derived.Test.YtogjnipojakfjaaPJdx9
import Derived.Test.YtogjnipojakfjaaPJdx10
import Derived.Test.YtogjnipojakfjaaPJdx12
namespace Go.Proofs.Ytogjnipojakfjaa.LEnt
open Go.RowKit Go.Proofs.Ytogjnipojakfjaa.PJd Go.Proofs.YtogjnipojakfjaaW.PrintWords Go.Proofs.YtogjnipojakfjaaW.PrintLast Go.Proofs.YtogjnipojakfjaaW.PrintMore
set_option linter.unusedVariables false
set_option linter.unusedSimpArgs false
theorem known_ok (k : Int) : entry_known.f k = some (decide (1 ≤ k ∧ k ≤ 3)) := by
  unfold entry_known.f
  by_cases h : k ≥ 1
  · rw [if_pos h]
    congr 1
    exact decide_eq_decide.mpr ⟨fun x => ⟨h, x⟩, fun x => x.2⟩
  · rw [if_neg h, decide_eq_false (fun x => h x.1)]
def payS (k : Int) (b : List Int) : List Int × Int := if 1 ≤ k ∧ k ≤ 3 then (if (b.length : Int) > 1024 then ([], 3) else (k % 256 :: b, 0)) else ([], 23)
theorem payload_ok (k : Int) (b : List Int) : entry_Payload.f k b = some (payS k b) := by
  unfold entry_Payload.f payS
  rw [known_ok]
  simp only [Option.bind_some, decide_eq_true_eq]
  by_cases h : 1 ≤ k ∧ k ≤ 3
  · rw [if_pos h, if_pos h]
    by_cases h2 : (b.length : Int) > 1024
    · rw [if_pos h2, if_pos h2]
    · rw [if_neg h2, if_neg h2, if_pos (by simp; omega)]
      rfl
  · rw [if_neg h, if_neg h]
theorem payS_len (k : Int) (b : List Int) : (payS k b).1.length ≤ 1025 := by
  unfold payS
  split
  · split
    · simp
    · simp; omega
  · simp
def frS (k : Int) (b t : List Int) : List Int × Int := if (payS k b).2 = 0 then (if t.length = 32 then (entry_length.bytes ((payS k b).1.length : Int) ++ (payS k b).1 ++ t, 0) else ([], 2)) else ([], (payS k b).2)
theorem frame_ok (k : Int) (b t : List Int) : entry_Frame.f k b t = some (frS k b t) := by
  unfold entry_Frame.f frS
  rw [payload_ok]
  simp only [Option.bind_some]
  have := payS_len k b
  rw [if_pos (show (payS k b).1.length < 100000 by omega)]
  split
  · split <;> rfl
  · rfl
theorem frS_ok (k : Int) (b t : List Int) (h : (frS k b t).2 = 0) : 1 ≤ k ∧ k ≤ 3 ∧ b.length ≤ 1024 ∧ t.length = 32 ∧ (frS k b t).1 = entry_length.bytes ((b.length + 1 : Nat) : Int) ++ (k :: b) ++ t := by
  unfold frS payS at *
  by_cases h1 : 1 ≤ k ∧ k ≤ 3
  · rw [if_pos h1] at h ⊢
    by_cases h2 : (b.length : Int) > 1024
    · rw [if_pos h2] at h
      simp at h
    · rw [if_neg h2] at h ⊢
      simp only [if_true] at h ⊢
      by_cases h3 : t.length = 32
      · rw [if_pos h3]
        refine ⟨h1.1, h1.2, by omega, h3, ?_⟩
        rw [show k % 256 = k by omega]
        simp
      · rw [if_neg h3] at h
        simp at h
  · rw [if_neg h1] at h
    simp at h
theorem frS_mk (k : Int) (b t : List Int) (h1 : 1 ≤ k) (h2 : k ≤ 3) (h3 : b.length ≤ 1024) (h4 : t.length = 32) : frS k b t = (entry_length.bytes ((b.length + 1 : Nat) : Int) ++ (k :: b) ++ t, 0) := by
  have hp : payS k b = (k :: b, 0) := by
    unfold payS
    rw [if_pos ⟨h1, h2⟩, if_neg (by omega), show k % 256 = k by omega]
  unfold frS
  rw [hp]
  rw [if_pos rfl, if_pos h4]
  simp
/-- what is read -/
theorem rd_nat (l : List Int) (h : LSame.Byt l) (i : Nat) (hi : i < l.length) : 0 ≤ rd l (i : Int) ∧ rd l (i : Int) < 256 := by
  rw [LSame.rd_at l i hi]
  exact h.at_ i hi
end Go.Proofs.Ytogjnipojakfjaa.LEnt
