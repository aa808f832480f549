-- SLIM: a printed text of which the unused ways are cut off
-- PRINTED by print.py (a twelfth state) out of the translation. Not trusted: Lean checks it.
import Derived.Test.YtiamcmjdoobaeaaPCex0
namespace Go.Proofs.Ytiamcmjdoobaeaa.PCe
open Go.RowKit Go.Proofs.YtiamcmjdoobaeaaW.PrintWords Go.Proofs.YtiamcmjdoobaeaaW.PrintLast Go.Proofs.YtiamcmjdoobaeaaW.PrintMore
attribute [local go_sem] max2_int min2_int max_two min_two max_three min_three max_four min_four   -- for this text's walks alone
set_option linter.unusedVariables false
set_option linter.unusedSimpArgs false

/-! ### notaryref01_Get: function 46 -/
mutual
def notaryref01_Get.j0 : Nat → List Int → Int → Bool → Option (Int × Int × Int)
  | 0, _, _, _ => none
  | k + 1, x0, x1, x17 => if x17 = true then (some (0, 0, 13)) else (notaryref01_Get.l0 k x0 x1 0 1 x1)
def notaryref01_Get.l0 : Nat → List Int → Int → Int → Int → Int → Option (Int × Int × Int)
  | 0, _, _, _, _, _ => none
  | k + 1, x0, x1, x7, x8, x9 => if x9 < (x0.length : Int) then (if (wrap64 (x9 - x1)) = 9 then (if 0 ≤ x9 then (if (rd x0 x9) = 1 then (if x9 > x1 then (notaryref01_Get.j2 k x0 x1 x7 x8 x9 ((rd x0 x9) == 0)) else (notaryref01_Get.j2 k x0 x1 x7 x8 x9 false)) else (notaryref01_Get.j2 k x0 x1 x7 x8 x9 true)) else (none)) else (if x9 > x1 then (if 0 ≤ x9 then (notaryref01_Get.j2 k x0 x1 x7 x8 x9 ((rd x0 x9) == 0)) else (none)) else (notaryref01_Get.j2 k x0 x1 x7 x8 x9 false))) else (some (0, 0, 1))
def notaryref01_Get.j2 : Nat → List Int → Int → Int → Int → Int → Bool → Option (Int × Int × Int)
  | 0, _, _, _, _, _, _ => none
  | k + 1, x0, x1, x7, x8, x9, x45 => if x45 = true then (some (0, 0, 2)) else (if 0 ≤ x9 then (if x9 < (x0.length : Int) then (if (rd x0 x9) < 128 then (some (IntKind.u64.wrap (x7 + (IntKind.u64.wrap ((IntKind.u64.wrap (Int.tmod (rd x0 x9) 128)) * x8))), wrap64 (x9 + 1), 0)) else (notaryref01_Get.l0 k x0 x1 (IntKind.u64.wrap (x7 + (IntKind.u64.wrap ((IntKind.u64.wrap (Int.tmod (rd x0 x9) 128)) * x8)))) (IntKind.u64.wrap (x8 * 128)) (wrap64 (x9 + 1)))) else (none)) else (none))
end
def notaryref01_Get.f (k : Nat) (l0 : List Int) (a1 : Int) : Option (Int × Int × Int) := if a1 < 0 then (notaryref01_Get.j0 k l0 a1 true) else (notaryref01_Get.j0 k l0 a1 (decide (a1 > (l0.length : Int))))
set_option maxHeartbeats 8000000 in
set_option maxRecDepth 100000 in
theorem notaryref01_Get.calls (k : Nat) (A0 : Option Addr) (c0 : Nat) (l0 : List Int) (a1 : Int) (r1 : Int) (r2 : Int) (r3 : Int) (w : World) (hr0 : Kd.C (Kd.int .u8) w A0 l0.length l0) (hc0 : l0.length ≤ c0) (h : notaryref01_Get.f k l0 a1 = some (r1, r2, r3)) :
    Calls Try.prog 46 #[.slice A0 l0.length c0, .int .i64 a1] w fun e w' => e = .returned (.tuple #[.int .u64 r1, .int .i64 r2, .int .i64 r3]) ∧ Drawn0 w w' := by
  have HR0 := Aside0.mk hr0
  have HC0 := Aside0.mk hc0
  clear hr0 hc0
  have H : (if a1 < 0 then (notaryref01_Get.j0 k l0 a1 true) else (notaryref01_Get.j0 k l0 a1 (decide (a1 > (l0.length : Int))))) = some (r1, r2, r3) := h
  clear h
  have HC3 := Aside0.mk H
  clear H
  go_enter Try.func46, Try.ntmps46
  go_upto_region 1 with (fail)
  go_cut [17] (fun v17 wc => ∃ (kq : Nat) (x17_2 : Bool), v17 = .bool x17_2 ∧ Aside0 (notaryref01_Get.j0 kq l0 a1 x17_2 = some (r1, r2, r3)) ∧ Aside0 (kq ≤ k) ∧ Drawn0 w wc)
  case first =>
    have H := HC3.out
    clear HC3
    by_cases c4 : a1 < 0
    · rw [if_pos c4] at H
      have c4b0 : decide (a1 < 0) = true := decide_eq_true c4
      clear c4
      (skip)
      have H' := Aside0.mk H
      clear H
      go_wp2
      go_meet
      case rel => exact ⟨_, (true), (by (rfl)), H', ⟨by (omega)⟩, by repeat (exact Drawn0.refl _)⟩
    rw [if_neg c4] at H
    have c4b0 : decide (a1 < 0) = false := decide_eq_false c4
    clear c4
    (skip)
    have H' := Aside0.mk H
    clear H
    go_wp2
    go_meet
    case rel => exact ⟨_, (decide (a1 > (l0.length : Int))), (by (rfl)), H', ⟨by (omega)⟩, by repeat (exact Drawn0.refl _)⟩
  clear HC3
  obtain ⟨kq, x17_2, rfl, HA, HJ2, ⟨mc2, rfl⟩⟩ := hcut
  rcases kq with _ | kj2
  · exact absurd HA.out (by simp [notaryref01_Get.j0])
  have H := HA.out
  clear HA
  simp only [notaryref01_Get.j0] at H
  by_cases c5 : x17_2 = true
  · subst c5
    have H1 : (some (0, 0, 13)) = some (r1, r2, r3) := by rw [if_pos rfl] at H; exact H
    clear H
    have H := H1
    clear H1
    simp only [Option.some.injEq, Prod.mk.injEq] at H
    obtain ⟨rfl, rfl, rfl⟩ := H
    go_wp2
    go_ret3
    exact ⟨by (rfl), by repeat (first | exact Drawn0.refl _ | apply Drawn0.step)⟩
  replace c5 := Bool.eq_false_iff.mpr c5
  subst c5
  have H1 : (notaryref01_Get.l0 kj2 l0 a1 0 1 a1) = some (r1, r2, r3) := by rw [if_neg (show ¬ (false = true) by decide)] at H; exact H
  clear H
  have H := H1
  clear H1
  have H' := Aside0.mk H
  clear H
  go_wp2
  go_loopg [7, 8, 9] kj2 (fun kq v7 v8 v9 w' => ∃ (x7_2 : Int) (x8_2 : Int) (x9_2 : Int), v7 = .int .u64 x7_2 ∧ v8 = .int .u64 x8_2 ∧ v9 = .int .i64 x9_2 ∧ Aside0 (notaryref01_Get.l0 kq l0 a1 x7_2 x8_2 x9_2 = some (r1, r2, r3)) ∧ Aside0 (kq ≤ kj2) ∧ Drawn0 w w')
  case atStart => exact ⟨(0), (1), (a1), (by (rfl)), (by (rfl)), (by (rfl)), H', ⟨Nat.le_refl _⟩, by repeat (first | exact Drawn0.refl _ | apply Drawn0.step)⟩
  clear H'
  obtain ⟨x7_2, x8_2, x9_2, rfl, rfl, rfl, HA, HK2, ⟨m2, rfl⟩⟩ := hrel
  rcases gk with _ | k2
  · exact absurd HA.out (by simp [notaryref01_Get.l0])
  have H := HA.out
  clear HA
  simp only [notaryref01_Get.l0] at H
  by_cases c6 : x9_2 < (l0.length : Int)
  rotate_left
  · rw [if_neg c6] at H
    have c6b0 : decide (x9_2 < (l0.length : Int)) = false := decide_eq_false c6
    clear c6
    simp only [Option.some.injEq, Prod.mk.injEq] at H
    obtain ⟨rfl, rfl, rfl⟩ := H
    go_wp2
    go_ret3
    exact ⟨by (rfl), by repeat (first | exact Drawn0.refl _ | apply Drawn0.step)⟩


  rw [if_pos c6] at H
  have c6b0 : decide (x9_2 < (l0.length : Int)) = true := decide_eq_true c6
  clear c6
  have HC7 := Aside0.mk H
  clear H
  go_upto_region 7 with (fail)
  go_cut [45] (fun v45 wc => ∃ (kq : Nat) (x45_6 : Bool), v45 = .bool x45_6 ∧ Aside0 (notaryref01_Get.j2 kq l0 a1 x7_2 x8_2 x9_2 x45_6 = some (r1, r2, r3)) ∧ Aside0 (kq ≤ k2) ∧ Drawn0 w wc)
  case first =>
    have H := HC7.out
    clear HC7
    by_cases c8 : (wrap64 (x9_2 - a1)) = 9
    rotate_left
    · rw [if_neg c8] at H
      have c8b0 : ((wrap64 (x9_2 - a1)) == 9) = false := beq_eq_false_iff_ne.mpr c8
      have c8b1 : ((wrap64 (x9_2 - a1)) != 9) = true := bne_iff_ne.mpr c8
      (skip)
      by_cases c12 : x9_2 > a1
      rotate_left
      · rw [if_neg c12] at H
        have c12b0 : decide (a1 < x9_2) = false := decide_eq_false c12
        clear c12
        have H' := Aside0.mk H
        clear H
        go_wp2
        go_meet
        case rel => exact ⟨_, (false), (by (rfl)), H', ⟨by have := HJ2.out; have := HK2.out; (omega)⟩, by repeat (first | exact Drawn0.refl _ | apply Drawn0.step)⟩
      rw [if_pos c12] at H
      have c12b0 : decide (a1 < x9_2) = true := decide_eq_true c12
      clear c12
      by_cases c13 : 0 ≤ x9_2
      rotate_left
      · rw [if_neg c13] at H
        exact absurd H (by simp)
      rw [if_pos c13] at H
      have c13b0 : decide (0 ≤ x9_2) = true := decide_eq_true c13
      clear c13
      have H' := Aside0.mk H
      clear H
      have p157 : 0 ≤ (x9_2 : Int) := of_decide_eq_true (by (with_reducible assumption))
      have q157 : x9_2 < (l0.length : Int) := of_decide_eq_true (by (with_reducible assumption))
      obtain ⟨ad157, e157, hx157_0⟩ := Kd.at_int HR0.out x9_2 p157 q157
      cases e157
      replace p157 := eq_true p157
      replace q157 := eq_true q157
      go_wp2
      go_meet
      case rel => exact ⟨_, (((rd l0 x9_2) == 0)), (by (rfl)), H', ⟨by have := HJ2.out; have := HK2.out; (omega)⟩, by repeat (first | exact Drawn0.refl _ | apply Drawn0.step)⟩
    rw [if_pos c8] at H
    have c8b0 : ((wrap64 (x9_2 - a1)) == 9) = true := beq_iff_eq.mpr c8
    have c8b1 : ((wrap64 (x9_2 - a1)) != 9) = false := bne_eq_false_iff_eq.mpr c8
    clear c8
    (skip)
    by_cases c9 : 0 ≤ x9_2
    rotate_left
    · rw [if_neg c9] at H
      exact absurd H (by simp)
    rw [if_pos c9] at H
    have c9b0 : decide (0 ≤ x9_2) = true := decide_eq_true c9
    clear c9
    by_cases c10 : (rd l0 x9_2) = 1
    rotate_left
    · rw [if_neg c10] at H
      have c10b0 : ((rd l0 x9_2) == 1) = false := beq_eq_false_iff_ne.mpr c10
      have c10b1 : ((rd l0 x9_2) != 1) = true := bne_iff_ne.mpr c10
      have H' := Aside0.mk H
      clear H
      have p155 : 0 ≤ (x9_2 : Int) := of_decide_eq_true (by (with_reducible assumption))
      have q155 : x9_2 < (l0.length : Int) := of_decide_eq_true (by (with_reducible assumption))
      obtain ⟨ad155, e155, hx155_0⟩ := Kd.at_int HR0.out x9_2 p155 q155
      cases e155
      replace p155 := eq_true p155
      replace q155 := eq_true q155
      go_wp2
      go_meet
      case rel => exact ⟨_, (true), (by (rfl)), H', ⟨by have := HJ2.out; have := HK2.out; (omega)⟩, by repeat (first | exact Drawn0.refl _ | apply Drawn0.step)⟩
    rw [if_pos c10] at H
    have c10b0 : ((rd l0 x9_2) == 1) = true := beq_iff_eq.mpr c10
    have c10b1 : ((rd l0 x9_2) != 1) = false := bne_eq_false_iff_eq.mpr c10
    clear c10
    by_cases c11 : x9_2 > a1
    rotate_left
    · rw [if_neg c11] at H
      have c11b0 : decide (a1 < x9_2) = false := decide_eq_false c11
      clear c11
      have H' := Aside0.mk H
      clear H
      have p155 : 0 ≤ (x9_2 : Int) := of_decide_eq_true (by (with_reducible assumption))
      have q155 : x9_2 < (l0.length : Int) := of_decide_eq_true (by (with_reducible assumption))
      obtain ⟨ad155, e155, hx155_0⟩ := Kd.at_int HR0.out x9_2 p155 q155
      cases e155
      replace p155 := eq_true p155
      replace q155 := eq_true q155
      go_wp2
      go_meet
      case rel => exact ⟨_, (false), (by (rfl)), H', ⟨by have := HJ2.out; have := HK2.out; (omega)⟩, by repeat (first | exact Drawn0.refl _ | apply Drawn0.step)⟩
    rw [if_pos c11] at H
    have c11b0 : decide (a1 < x9_2) = true := decide_eq_true c11
    clear c11
    have H' := Aside0.mk H
    clear H
    have p155 : 0 ≤ (x9_2 : Int) := of_decide_eq_true (by (with_reducible assumption))
    have q155 : x9_2 < (l0.length : Int) := of_decide_eq_true (by (with_reducible assumption))
    obtain ⟨ad155, e155, hx155_0⟩ := Kd.at_int HR0.out x9_2 p155 q155
    cases e155
    replace p155 := eq_true p155
    replace q155 := eq_true q155
    have p156 : 0 ≤ (x9_2 : Int) := of_decide_eq_true (by (with_reducible assumption))
    have q156 : x9_2 < (l0.length : Int) := of_decide_eq_true (by (with_reducible assumption))
    obtain ⟨ad156, e156, hx156_0⟩ := Kd.at_int HR0.out x9_2 p156 q156
    obtain rfl : ad155 = ad156 := (by injection e156)
    replace p156 := eq_true p156
    replace q156 := eq_true q156
    go_wp2
    go_meet
    case rel => exact ⟨_, (((rd l0 x9_2) == 0)), (by (rfl)), H', ⟨by have := HJ2.out; have := HK2.out; (omega)⟩, by repeat (first | exact Drawn0.refl _ | apply Drawn0.step)⟩
  clear HC7
  try clear c6b0
  obtain ⟨kq, x45_6, rfl, HA, HJ6, ⟨mc6, rfl⟩⟩ := hcut
  rcases kq with _ | kj6
  · exact absurd HA.out (by simp [notaryref01_Get.j2])
  have H := HA.out
  clear HA
  simp only [notaryref01_Get.j2] at H
  by_cases c14 : x45_6 = true
  · subst c14
    have H1 : (some (0, 0, 2)) = some (r1, r2, r3) := by rw [if_pos rfl] at H; exact H
    clear H
    have H := H1
    clear H1
    simp only [Option.some.injEq, Prod.mk.injEq] at H
    obtain ⟨rfl, rfl, rfl⟩ := H
    go_wp2
    go_ret3
    exact ⟨by (rfl), by repeat (first | exact Drawn0.refl _ | apply Drawn0.step)⟩
  replace c14 := Bool.eq_false_iff.mpr c14
  subst c14
  have H1 : (if 0 ≤ x9_2 then (if x9_2 < (l0.length : Int) then (if (rd l0 x9_2) < 128 then (some (IntKind.u64.wrap (x7_2 + (IntKind.u64.wrap ((IntKind.u64.wrap (Int.tmod (rd l0 x9_2) 128)) * x8_2))), wrap64 (x9_2 + 1), 0)) else (notaryref01_Get.l0 kj6 l0 a1 (IntKind.u64.wrap (x7_2 + (IntKind.u64.wrap ((IntKind.u64.wrap (Int.tmod (rd l0 x9_2) 128)) * x8_2)))) (IntKind.u64.wrap (x8_2 * 128)) (wrap64 (x9_2 + 1)))) else (none)) else (none)) = some (r1, r2, r3) := by rw [if_neg (show ¬ (false = true) by decide)] at H; exact H
  clear H
  have H := H1
  clear H1
  by_cases c15 : 0 ≤ x9_2
  rotate_left
  · rw [if_neg c15] at H
    exact absurd H (by simp)
  rw [if_pos c15] at H
  have c15b0 : decide (0 ≤ x9_2) = true := decide_eq_true c15
  clear c15
  by_cases c16 : x9_2 < (l0.length : Int)
  rotate_left
  · rw [if_neg c16] at H
    exact absurd H (by simp)
  rw [if_pos c16] at H
  have c16b0 : decide (x9_2 < (l0.length : Int)) = true := decide_eq_true c16
  clear c16
  by_cases c17 : (rd l0 x9_2) < 128
  · rw [if_pos c17] at H
    have c17b0 : decide ((rd l0 x9_2) < 128) = true := decide_eq_true c17
    clear c17
    simp only [Option.some.injEq, Prod.mk.injEq] at H
    obtain ⟨rfl, rfl, rfl⟩ := H
    have p158 : 0 ≤ (x9_2 : Int) := of_decide_eq_true (by (with_reducible assumption))
    have q158 : x9_2 < (l0.length : Int) := of_decide_eq_true (by (with_reducible assumption))
    obtain ⟨ad158, e158, hx158_0⟩ := Kd.at_int HR0.out x9_2 p158 q158
    cases e158
    replace p158 := eq_true p158
    replace q158 := eq_true q158
    have p159 : 0 ≤ (x9_2 : Int) := of_decide_eq_true (by (with_reducible assumption))
    have q159 : x9_2 < (l0.length : Int) := of_decide_eq_true (by (with_reducible assumption))
    obtain ⟨ad159, e159, hx159_0⟩ := Kd.at_int HR0.out x9_2 p159 q159
    obtain rfl : ad158 = ad159 := (by injection e159)
    replace p159 := eq_true p159
    replace q159 := eq_true q159
    go_wp2
    go_ret3
    exact ⟨by (rfl), by repeat (first | exact Drawn0.refl _ | apply Drawn0.step)⟩
  rw [if_neg c17] at H
  have c17b0 : decide ((rd l0 x9_2) < 128) = false := decide_eq_false c17
  clear c17
  have H' := Aside0.mk H
  clear H
  have p158 : 0 ≤ (x9_2 : Int) := of_decide_eq_true (by (with_reducible assumption))
  have q158 : x9_2 < (l0.length : Int) := of_decide_eq_true (by (with_reducible assumption))
  obtain ⟨ad158, e158, hx158_0⟩ := Kd.at_int HR0.out x9_2 p158 q158
  cases e158
  replace p158 := eq_true p158
  replace q158 := eq_true q158
  have p159 : 0 ≤ (x9_2 : Int) := of_decide_eq_true (by (with_reducible assumption))
  have q159 : x9_2 < (l0.length : Int) := of_decide_eq_true (by (with_reducible assumption))
  obtain ⟨ad159, e159, hx159_0⟩ := Kd.at_int HR0.out x9_2 p159 q159
  obtain rfl : ad158 = ad159 := (by injection e159)
  replace p159 := eq_true p159
  replace q159 := eq_true q159
  go_wp2
  go_roundg kj6
  case measure => have := HJ2.out; have := HK2.out; have := HJ6.out; omega
  case rel => exact ⟨(IntKind.u64.wrap (x7_2 + (IntKind.u64.wrap ((IntKind.u64.wrap (Int.tmod (rd l0 x9_2) 128)) * x8_2)))), (IntKind.u64.wrap (x8_2 * 128)), (wrap64 (x9_2 + 1)), (by (rfl)), (by (rfl)), (by (rfl)), H', ⟨by have := HJ2.out; have := HK2.out; have := HJ6.out; omega⟩, by repeat (first | exact Drawn0.refl _ | apply Drawn0.step)⟩/-! ### notaryref01_Zag: function 47 -/
def notaryref01_Zag.f (a0 : Int) : Option (Int) := if (Int.tmod a0 2) = 0 then (some (wrap64 (IntKind.u64.wrap (Int.tdiv a0 2)))) else (some (wrap64 ((wrap64 (-(wrap64 (IntKind.u64.wrap (Int.tdiv a0 2))))) - 1)))
set_option maxHeartbeats 8000000 in
set_option maxRecDepth 100000 in
theorem notaryref01_Zag.calls (a0 : Int) (r : Int) (w : World) (h : notaryref01_Zag.f a0 = some r) :
    Calls Try.prog 47 #[.int .u64 a0] w fun e w' => e = .returned (.int .i64 r) ∧ Drawn0 w w' := by
  have H : (if (Int.tmod a0 2) = 0 then (some (wrap64 (IntKind.u64.wrap (Int.tdiv a0 2)))) else (some (wrap64 ((wrap64 (-(wrap64 (IntKind.u64.wrap (Int.tdiv a0 2))))) - 1)))) = some r := h
  clear h
  by_cases c2 : (Int.tmod a0 2) = 0
  rotate_left
  · rw [if_neg c2] at H
    have c2b0 : ((Int.tmod a0 2) == 0) = false := beq_eq_false_iff_ne.mpr c2
    have c2b1 : ((Int.tmod a0 2) != 0) = true := bne_iff_ne.mpr c2
    obtain rfl := Option.some.inj H
    go_enter Try.func47, Try.ntmps47
    go_wp2
    go_ret
    exact ⟨by (rfl), by repeat (exact Drawn0.refl _)⟩

  rw [if_pos c2] at H
  have c2b0 : ((Int.tmod a0 2) == 0) = true := beq_iff_eq.mpr c2
  have c2b1 : ((Int.tmod a0 2) != 0) = false := bne_eq_false_iff_eq.mpr c2
  clear c2
  obtain rfl := Option.some.inj H
  go_enter Try.func47, Try.ntmps47
  go_wp2
  go_ret
  exact ⟨by (rfl), by repeat (exact Drawn0.refl _)⟩
end Go.Proofs.Ytiamcmjdoobaeaa.PCe
