-- SLIM: a printed text of which the unused ways are cut off
-- PRINTED by print.py (a twelfth state) out of the translation. Not trusted: Lean checks it.
import Derived.Test.YtogjnipojakfjaaPJvx0
import Derived.Test.YtogjnipojakfjaaPJvx5
namespace Go.Proofs.Ytogjnipojakfjaa.PJv
open Go.RowKit Go.Proofs.YtogjnipojakfjaaW.PrintWords Go.Proofs.YtogjnipojakfjaaW.PrintLast Go.Proofs.YtogjnipojakfjaaW.PrintMore
attribute [local go_sem] max2_int min2_int max_two min_two max_three min_three max_four min_four   -- for this text's walks alone
set_option linter.unusedVariables false
set_option linter.unusedSimpArgs false

/-! ### notaryref48_Begins: function 23 (given) -/
def notaryref48_Begins.f (k : Nat) (l0 : List Int) (l1 : List Int) : Option (Bool) := if l1.length ≤ l0.length then notaryref01_Same.f k (l0.take l1.length) l1 else (some false)
set_option maxHeartbeats 4000000 in
set_option maxRecDepth 100000 in
theorem notaryref48_Begins.calls (k : Nat) (A0 : Option Addr) (c0 : Nat) (l0 : List Int) (A1 : Option Addr) (c1 : Nat) (l1 : List Int) (r : Bool) (w : World) (hr0 : Kd.C (Kd.int .u8) w A0 l0.length l0) (hc0 : l0.length ≤ c0) (hr1 : Kd.C (Kd.int .u8) w A1 l1.length l1) (hc1 : l1.length ≤ c1) (h : notaryref48_Begins.f k l0 l1 = some r) :
    Calls Try.prog 23 #[.slice A0 l0.length c0, .slice A1 l1.length c1] w fun e w' => e = .returned (.bool r) ∧ Drawn0 w w' := by
  have HR0 := Aside0.mk hr0
  have HC0 := Aside0.mk hc0
  have HR1 := Aside0.mk hr1
  have HC1 := Aside0.mk hc1
  unfold notaryref48_Begins.f at h
  by_cases hl : l1.length ≤ l0.length
  · rw [if_pos hl] at h
    have HF := Aside0.mk h
    have hd : decide ((l1.length : Int) ≤ (l0.length : Int)) = true := decide_eq_true (by omega)
    have hd2 : decide (l1.length ≤ l0.length) = true := decide_eq_true hl
    have HT : Aside0 ((l0.take l1.length).length = l1.length) := ⟨by rw [List.length_take]; omega⟩
    have HCT : Aside0 (Kd.C (Kd.int .u8) w A0 l1.length (l0.take l1.length)) := ⟨Kd.C_of_reads (d := (0 : Int)) (h1 := fun _ => rfl) (ReadsOf.take_ (Kd.reads_of_C (d := (0 : Int)) hr0) l1.length hl)⟩
    have HCC : Aside0 (l1.length ≤ c0) := ⟨Nat.le_trans hl hc0⟩
    obtain ⟨i0, hi0, _⟩ := info_parts info5
    have hcut : ∀ W : World, (Instr.slice 22 (.slice A0 l0.length c0) none (some (.int .i64 (l1.length : Int))) none).run Try.prog W = .ok (.slice A0 l1.length c0) W := fun W => by
      have := cut_to (P := Try.prog) 22 5 .i64 Try.underlying22 hi0 A0 l0.length c0 (l1.length : Int) (by omega) (by omega) hc0 W
      simpa using this
    have HFC : Aside0 (∀ W, Kd.C (Kd.int .u8) W A0 l1.length (l0.take l1.length) → Kd.C (Kd.int .u8) W A1 l1.length l1 → Calls Try.prog 16 #[.slice A0 l1.length c0, .slice A1 l1.length c1] W fun e w' => e = .returned (.bool r) ∧ Drawn0 W w') := ⟨fun W g0 g1 => by
      have := notaryref01_Same.calls k A0 c0 (l0.take l1.length) A1 c1 l1 r W (by rw [HT.out]; exact g0) (by rw [HT.out]; exact HCC.out) g1 HC1.out HF.out
      rwa [HT.out] at this⟩
    clear hr0 hc0 hr1 hc1 h hi0
    go_enter Try.func23, Try.ntmps23
    go_wp2_with (go_at_call 16; (with_reducible refine (HFC.out _ HCT.out HR1.out).mono ?_); rintro e w' ⟨rfl, ⟨nd, rfl⟩⟩)
    go_ret
    exact ⟨rfl, by repeat (first | exact Drawn0.refl _ | apply Drawn0.step)⟩
  · rw [if_neg hl] at h
    obtain rfl := Option.some.inj h
    have hd : decide ((l1.length : Int) ≤ (l0.length : Int)) = false := decide_eq_false (by omega)
    have hd2 : decide (l1.length ≤ l0.length) = false := decide_eq_false hl
    clear hr0 hc0 hr1 hc1 h
    go_enter Try.func23, Try.ntmps23
    go_wp2
    try go_wp2
    go_ret
    exact ⟨rfl, by repeat (exact Drawn0.refl _)⟩

-- NOT PRINTED: function 4 (notarylaw49_JournalVerifies)

end Go.Proofs.Ytogjnipojakfjaa.PJv
