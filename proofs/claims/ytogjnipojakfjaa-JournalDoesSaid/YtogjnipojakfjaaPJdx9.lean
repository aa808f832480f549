-- SLIM: a printed text of which the unused ways are cut off
-- PRINTED by print.py (a twelfth state) out of the translation. Not trusted: Lean checks it.
import Derived.Test.YtogjnipojakfjaaPJdx0
namespace Go.Proofs.Ytogjnipojakfjaa.PJd
open Go.RowKit Go.Proofs.YtogjnipojakfjaaW.PrintWords Go.Proofs.YtogjnipojakfjaaW.PrintLast Go.Proofs.YtogjnipojakfjaaW.PrintMore
attribute [local go_sem] max2_int min2_int max_two min_two max_three min_three max_four min_four   -- for this text's walks alone
set_option linter.unusedVariables false
set_option linter.unusedSimpArgs false

/-! ### notaryref49_Large: function 27 -/
mutual
def notaryref49_Large.l0 : Nat → List (S56) → Int → Option (Bool)
  | 0, _, _ => none
  | k + 1, x0, x3 => if x3 < (x0.length : Int) then (notaryref49_Large.j1 k x0 x3 (decide (x3 < 20))) else (notaryref49_Large.j1 k x0 x3 false)
def notaryref49_Large.j1 : Nat → List (S56) → Int → Bool → Option (Bool)
  | 0, _, _, _ => none
  | k + 1, x0, x3, x11 => if x11 = true then (if 0 ≤ x3 then (if x3 < (x0.length : Int) then (if (((rd_T56 x0 x3).f3).length : Int) > 300 then (some true) else (if (((rd_T56 x0 x3).f1.f1).length : Int) > 2000 then (some true) else (notaryref49_Large.l0 k x0 (wrap64 (x3 + 1))))) else (none)) else (none)) else (some (decide ((x0.length : Int) > 20)))
end
def notaryref49_Large.f (k : Nat) (l0 : List (S56)) : Option (Bool) := notaryref49_Large.l0 k l0 0
set_option maxHeartbeats 8000000 in
set_option maxRecDepth 100000 in
theorem notaryref49_Large.calls (k : Nat) (A0 : Option Addr) (c0 : Nat) (l0 : List (S56)) (r : Bool) (w : World) (hr0 : Kd.C k56 w A0 l0.length l0) (hc0 : l0.length ≤ c0) (h : notaryref49_Large.f k l0 = some r) :
    Calls Try.prog 27 #[.slice A0 l0.length c0] w fun e w' => e = .returned (.bool r) ∧ Drawn0 w w' := by
  have HR0 := Aside0.mk hr0
  have HC0 := Aside0.mk hc0
  clear hr0 hc0
  have H : (notaryref49_Large.l0 k l0 0) = some r := h
  clear h
  have H' := Aside0.mk H
  clear H
  go_enter Try.func27, Try.ntmps27
  go_wp2
  go_loopg [3] k (fun kq v3 w' => ∃ (x3_1 : Int), v3 = .int .i64 x3_1 ∧ Aside0 (notaryref49_Large.l0 kq l0 x3_1 = some r) ∧ Aside0 (kq ≤ k) ∧ Drawn0 w w')
  case atStart => exact ⟨(0), (by (rfl)), H', ⟨Nat.le_refl _⟩, by repeat (exact Drawn0.refl _)⟩
  clear H'
  obtain ⟨x3_1, rfl, HA, HK1, ⟨m1, rfl⟩⟩ := hrel
  rcases gk with _ | k1
  · exact absurd HA.out (by simp [notaryref49_Large.l0])
  have H := HA.out
  clear HA
  simp only [notaryref49_Large.l0] at H
  have HC2 := Aside0.mk H
  clear H
  go_upto_region 2 with (fail)
  go_cut [11] (fun v11 wc => ∃ (kq : Nat) (x11_1 : Bool), v11 = .bool x11_1 ∧ Aside0 (notaryref49_Large.j1 kq l0 x3_1 x11_1 = some r) ∧ Aside0 (kq ≤ k1) ∧ Drawn0 w wc)
  case first =>
    have H := HC2.out
    clear HC2
    by_cases c3 : x3_1 < (l0.length : Int)
    rotate_left
    · rw [if_neg c3] at H
      have c3b0 : decide (x3_1 < (l0.length : Int)) = false := decide_eq_false c3
      clear c3
      (skip)
      have H' := Aside0.mk H
      clear H
      go_wp2
      go_meet
      case rel => exact ⟨_, (false), (by (rfl)), H', ⟨by have := HK1.out; (omega)⟩, by repeat (first | exact Drawn0.refl _ | apply Drawn0.step)⟩
    rw [if_pos c3] at H
    have c3b0 : decide (x3_1 < (l0.length : Int)) = true := decide_eq_true c3
    clear c3
    (skip)
    have H' := Aside0.mk H
    clear H
    go_wp2
    go_meet
    case rel => exact ⟨_, (decide (x3_1 < 20)), (by (rfl)), H', ⟨by have := HK1.out; (omega)⟩, by repeat (first | exact Drawn0.refl _ | apply Drawn0.step)⟩
  clear HC2
  obtain ⟨kq, x11_1, rfl, HA, HJ1, ⟨mc1, rfl⟩⟩ := hcut
  rcases kq with _ | kj1
  · exact absurd HA.out (by simp [notaryref49_Large.j1])
  have H := HA.out
  clear HA
  simp only [notaryref49_Large.j1] at H
  by_cases c4 : x11_1 = true
  rotate_left
  · replace c4 := Bool.eq_false_iff.mpr c4
    subst c4
    have H1 : (some (decide ((l0.length : Int) > 20))) = some r := by rw [if_neg (show ¬ (false = true) by decide)] at H; exact H
    clear H
    have H := H1
    clear H1
    obtain rfl := Option.some.inj H
    go_wp2
    go_ret
    exact ⟨by (rfl), by repeat (first | exact Drawn0.refl _ | apply Drawn0.step)⟩


  subst c4
  have H1 : (if 0 ≤ x3_1 then (if x3_1 < (l0.length : Int) then (if (((rd_T56 l0 x3_1).f3).length : Int) > 300 then (some true) else (if (((rd_T56 l0 x3_1).f1.f1).length : Int) > 2000 then (some true) else (notaryref49_Large.l0 kj1 l0 (wrap64 (x3_1 + 1))))) else (none)) else (none)) = some r := by rw [if_pos rfl] at H; exact H
  clear H
  have H := H1
  clear H1
  by_cases c5 : 0 ≤ x3_1
  rotate_left
  · rw [if_neg c5] at H
    exact absurd H (by simp)
  rw [if_pos c5] at H
  have c5b0 : decide (0 ≤ x3_1) = true := decide_eq_true c5
  clear c5
  by_cases c6 : x3_1 < (l0.length : Int)
  rotate_left
  · rw [if_neg c6] at H
    exact absurd H (by simp)
  rw [if_pos c6] at H
  have c6b0 : decide (x3_1 < (l0.length : Int)) = true := decide_eq_true c6
  clear c6
  by_cases c7 : (((rd_T56 l0 x3_1).f3).length : Int) > 300
  · rw [if_pos c7] at H
    have c7b0 : decide (300 < (((rd_T56 l0 x3_1).f3).length : Int)) = true := decide_eq_true c7
    have c7b1 : decide (300 < ((rd_T56 l0 x3_1).f3).length) = true := decide_eq_true (by omega)
    clear c7
    obtain rfl := Option.some.inj H
    have p354 : 0 ≤ (x3_1 : Int) := of_decide_eq_true (by (with_reducible assumption))
    have q354 : x3_1 < (l0.length : Int) := of_decide_eq_true (by (with_reducible assumption))
    obtain ⟨ad354, A354_2, c354_2, A354_4, c354_4, e354, hx354_0, hx354_1, hx354_2, hx354_3, hx354_4, hl354_2, hi354_2, hl354_4, hi354_4⟩ := at_T56 HR0.out x3_1 p354 q354
    cases e354
    have HR354_2 := Aside0.mk hi354_2
    have HC354_2 := Aside0.mk hl354_2
    clear hi354_2 hl354_2
    have HR354_4 := Aside0.mk hi354_4
    have HC354_4 := Aside0.mk hl354_4
    clear hi354_4 hl354_4
    replace p354 := eq_true p354
    replace q354 := eq_true q354
    go_wp2
    go_ret
    exact ⟨by (rfl), by repeat (first | exact Drawn0.refl _ | apply Drawn0.step)⟩
  rw [if_neg c7] at H
  have c7b0 : decide (300 < (((rd_T56 l0 x3_1).f3).length : Int)) = false := decide_eq_false c7
  have c7b1 : decide (300 < ((rd_T56 l0 x3_1).f3).length) = false := decide_eq_false (by omega)
  clear c7
  by_cases c8 : (((rd_T56 l0 x3_1).f1.f1).length : Int) > 2000
  · rw [if_pos c8] at H
    have c8b0 : decide (2000 < (((rd_T56 l0 x3_1).f1.f1).length : Int)) = true := decide_eq_true c8
    have c8b1 : decide (2000 < ((rd_T56 l0 x3_1).f1.f1).length) = true := decide_eq_true (by omega)
    clear c8
    obtain rfl := Option.some.inj H
    have p354 : 0 ≤ (x3_1 : Int) := of_decide_eq_true (by (with_reducible assumption))
    have q354 : x3_1 < (l0.length : Int) := of_decide_eq_true (by (with_reducible assumption))
    obtain ⟨ad354, A354_2, c354_2, A354_4, c354_4, e354, hx354_0, hx354_1, hx354_2, hx354_3, hx354_4, hl354_2, hi354_2, hl354_4, hi354_4⟩ := at_T56 HR0.out x3_1 p354 q354
    cases e354
    have HR354_2 := Aside0.mk hi354_2
    have HC354_2 := Aside0.mk hl354_2
    clear hi354_2 hl354_2
    have HR354_4 := Aside0.mk hi354_4
    have HC354_4 := Aside0.mk hl354_4
    clear hi354_4 hl354_4
    replace p354 := eq_true p354
    replace q354 := eq_true q354
    have p355 : 0 ≤ (x3_1 : Int) := of_decide_eq_true (by (with_reducible assumption))
    have q355 : x3_1 < (l0.length : Int) := of_decide_eq_true (by (with_reducible assumption))
    obtain ⟨ad355, A355_2, c355_2, A355_4, c355_4, e355, hx355_0, hx355_1, hx355_2, hx355_3, hx355_4, hl355_2, hi355_2, hl355_4, hi355_4⟩ := at_T56 HR0.out x3_1 p355 q355
    obtain rfl : ad354 = ad355 := (by injection e355)
    have HR355_2 := Aside0.mk hi355_2
    have HC355_2 := Aside0.mk hl355_2
    clear hi355_2 hl355_2
    have HR355_4 := Aside0.mk hi355_4
    have HC355_4 := Aside0.mk hl355_4
    clear hi355_4 hl355_4
    replace p355 := eq_true p355
    replace q355 := eq_true q355
    have ea_ := Option.some.inj (hx354_2.symm.trans hx355_2)
    injection ea_ with ea_ en_ ec_
    subst ea_
    subst ec_
    clear en_
    have ea_ := Option.some.inj (hx354_4.symm.trans hx355_4)
    injection ea_ with ea_ en_ ec_
    subst ea_
    subst ec_
    clear en_
    go_wp2
    go_ret
    exact ⟨by (rfl), by repeat (first | exact Drawn0.refl _ | apply Drawn0.step)⟩
  rw [if_neg c8] at H
  have c8b0 : decide (2000 < (((rd_T56 l0 x3_1).f1.f1).length : Int)) = false := decide_eq_false c8
  have c8b1 : decide (2000 < ((rd_T56 l0 x3_1).f1.f1).length) = false := decide_eq_false (by omega)
  clear c8
  have H' := Aside0.mk H
  clear H
  have p354 : 0 ≤ (x3_1 : Int) := of_decide_eq_true (by (with_reducible assumption))
  have q354 : x3_1 < (l0.length : Int) := of_decide_eq_true (by (with_reducible assumption))
  obtain ⟨ad354, A354_2, c354_2, A354_4, c354_4, e354, hx354_0, hx354_1, hx354_2, hx354_3, hx354_4, hl354_2, hi354_2, hl354_4, hi354_4⟩ := at_T56 HR0.out x3_1 p354 q354
  cases e354
  have HR354_2 := Aside0.mk hi354_2
  have HC354_2 := Aside0.mk hl354_2
  clear hi354_2 hl354_2
  have HR354_4 := Aside0.mk hi354_4
  have HC354_4 := Aside0.mk hl354_4
  clear hi354_4 hl354_4
  replace p354 := eq_true p354
  replace q354 := eq_true q354
  have p355 : 0 ≤ (x3_1 : Int) := of_decide_eq_true (by (with_reducible assumption))
  have q355 : x3_1 < (l0.length : Int) := of_decide_eq_true (by (with_reducible assumption))
  obtain ⟨ad355, A355_2, c355_2, A355_4, c355_4, e355, hx355_0, hx355_1, hx355_2, hx355_3, hx355_4, hl355_2, hi355_2, hl355_4, hi355_4⟩ := at_T56 HR0.out x3_1 p355 q355
  obtain rfl : ad354 = ad355 := (by injection e355)
  have HR355_2 := Aside0.mk hi355_2
  have HC355_2 := Aside0.mk hl355_2
  clear hi355_2 hl355_2
  have HR355_4 := Aside0.mk hi355_4
  have HC355_4 := Aside0.mk hl355_4
  clear hi355_4 hl355_4
  replace p355 := eq_true p355
  replace q355 := eq_true q355
  have ea_ := Option.some.inj (hx354_2.symm.trans hx355_2)
  injection ea_ with ea_ en_ ec_
  subst ea_
  subst ec_
  clear en_
  have ea_ := Option.some.inj (hx354_4.symm.trans hx355_4)
  injection ea_ with ea_ en_ ec_
  subst ea_
  subst ec_
  clear en_
  go_wp2
  go_roundg kj1
  case measure => have := HK1.out; have := HJ1.out; omega
  case rel => exact ⟨(wrap64 (x3_1 + 1)), (by (rfl)), H', ⟨by have := HK1.out; have := HJ1.out; omega⟩, by repeat (first | exact Drawn0.refl _ | apply Drawn0.step)⟩/-! ### chain_First: function 32 -/
def chain_First.f  : Option (List Int) := if 32 ≤ 281474976710656 then (some (List.replicate 32 0)) else (none)
set_option maxHeartbeats 8000000 in
set_option maxRecDepth 100000 in
theorem chain_First.calls  (r : List Int) (w : World) (h : chain_First.f  = some r) :
    Calls Try.prog 32 #[] w fun e w' => ∃ v0_ : Value, e = .returned (v0_) ∧ Kd.R (Kd.int .u8) 5 w' w.heap.size (fun _ => True) v0_ r ∧ Below w.heap.size w w' := by
  have HB := Aside0.mk (Below.refl w.heap.size w)
  have H : (if 32 ≤ 281474976710656 then (some (List.replicate 32 0)) else (none)) = some r := h
  clear h
  by_cases c1 : 32 ≤ 281474976710656
  rotate_left
  · rw [if_neg c1] at H
    exact absurd H (by simp)


  rw [if_pos c1] at H
  have c1b0 := eq_true c1
  have c1b1 : decide (32 ≤ 281474976710656) = true := decide_eq_true c1
  clear c1
  obtain ⟨y356, hy356⟩ : ∃ y_ : List Int, y_ = (List.replicate 32 0) := ⟨_, rfl⟩
  replace H : (some y356) = some r := by (rw [hy356]; with_reducible exact H)
  have Ny356 := Aside0.mk hy356
  clear hy356
  obtain rfl := Option.some.inj H
  go_enter Try.func32, Try.ntmps32
  go_wp2_with ((((with_reducible refine gate_dst (N := 1) rfl ?_); refine Kd.R_make (Kd.int .u8) _ 5 rfl (N := 1) rfl 22 _ _ rfl 32 rfl rfl Try.underlying22 (.int .u8 0) 1 info5 rfl (by decide) (by omega) 0 (ok := fun _ => True) (okp := fun _ => True) rfl (fun _ hk => hk) trivial (by omega) (by omega) (Below.refl _ _) (Nat.le_refl _) ?_; intro v357 w2 ho3 hb hg_ hnew_; clear hg_ hnew_; (simp only [Int.reduceToNat] at ho3; rw [← Ny356.out] at ho3); have n0_ := Aside0.mk (Kd.R_lower ho3 (below_size HB.out)); have n1_ := Aside0.mk (below_step HB.out hb); clear HB; have HO358 := n0_; have HB := n1_; clear n0_ n1_; clear hb ho3)))
  go_ret
  exact ⟨_, by (rfl), by exact HO358.out, HB.out⟩/-! ### slices_Clone_byte_byte: function 33 (given) -/
def slices_Clone_byte_byte.f (l : List Int) : Option (List Int) := if l.length < 100000000000000 then some l else none
set_option maxHeartbeats 4000000 in
set_option maxRecDepth 100000 in
theorem slices_Clone_byte_byte.calls (A0 : Option Addr) (c0 : Nat) (l0 : List Int) (r : List Int) (w : World) (hr0 : Kd.C (Kd.int .u8) w A0 l0.length l0) (hc0 : l0.length ≤ c0) (h : slices_Clone_byte_byte.f l0 = some r) :
    Calls Try.prog 33 #[.slice A0 l0.length c0] w fun e w' => ∃ v0_ : Value, e = .returned (v0_) ∧ Kd.R (Kd.int .u8) 5 w' w.heap.size (fun _ => True) v0_ r ∧ Below w.heap.size w w' := by
  unfold slices_Clone_byte_byte.f at h
  by_cases hl : l0.length < 100000000000000
  case neg => rw [if_neg hl] at h; exact absurd h (by simp)
  rw [if_pos hl] at h
  obtain rfl := Option.some.inj h
  have HR := Aside0.mk hr0
  have HL := Aside0.mk hl
  clear hr0 hl h hc0
  have hk := fun W : World => Lib.run_eql_slice_nil (P := Try.prog) W 22 5 A0 l0.length c0 0 0 Try.underlying22
  cases A0 with
  | none =>
    have h0 : l0 = [] := by
      rcases l0 with _ | ⟨x, l⟩
      · rfl
      · obtain ⟨ad, h, _⟩ := HR.out.2.2 (by simp)
        cases h
    subst h0
    clear HR HL
    simp only [Option.isNone_none, List.length_nil] at hk
    go_enter Try.func33, Try.ntmps33
    go_wp2
    go_ret
    exact ⟨_, rfl, Kd.R_nil _ _ _ _ _, Below.refl _ _⟩
  | some ad =>
    simp only [Option.isNone_some] at hk
    go_enter Try.func33, Try.ntmps33
    go_wp2_with (first | ((with_reducible refine gate_dst (N := 5) rfl ?_); refine Kd.R_lit (Kd.int .u8) w.heap.size 5 ?hg (N := 5) ?hd (w0 := w) (xs := ([] : List Int)) (inner := []) (ok := fun _ => True) (okp := fun _ => True) ?hr ?hp (fun _ hk => hk) trivial (Below.refl _ _) (Nat.le_refl _) (by simp) ?_; (case hd => rfl); (case hg => rfl); (case hr => (go_simp; done)); (case hp => exact Reps.none _ _); intro v5 w5 ho5 hb5 hg5 hn5; have HO5 := Aside0.mk ho5; have HB5 := Aside0.mk hb5; clear ho5 hb5 hg5 hn5) | ((with_reducible refine gate_builtin (b := .append) (xs := #[.tmp 5, .tmp 6]) rfl ?_); at_builtin; refine Kd.R_append_rows (Kd.int .u8) (w0 := w) w.heap.size rfl (.tmp 5) (.tmp 6) 22 5 (.int .u8 0) 1 rfl Try.underlying22 info5 rfl (by decide) (by omega) v5 [] l0 _ _ _ (fun _ => True) (fun _ => False) rfl rfl HO5.out (Kd.C_below HR.out HB5.out) (fun _ _ h => h) (fun _ h => h.elim) (fun _ _ => trivial) HB5.out HB5.out.size (by have := HL.out; simp; omega) ?_; intro v7 w7 ho7 hb7 hg7 hat7; have HO7 := Aside0.mk ho7; have HB7 := Aside0.mk hb7; clear ho7 hb7 hg7 hat7))
    go_ret
    exact ⟨_, rfl, HO7.out, HB7.out⟩

-- NOT PRINTED: function 34 (device_Device_Bytes)

/-! ### entry_number: function 52 (given) -/
/-- what four bytes say -/
def entry_number.of (a b c d : Int) : Int := a * 16777216 + b * 65536 + c * 256 + d
theorem entry_number.join (x y : Nat) (hx : x % 256 = 0) (hy : y < 256) : y ||| x = x + y := by rw [Nat.or_comm]; exact nat_join 8 x y hx hy
set_option maxHeartbeats 4000000 in
theorem entry_number.calls (a b c d : Int) (ha : 0 ≤ a ∧ a < 256) (hb : 0 ≤ b ∧ b < 256) (hc : 0 ≤ c ∧ c < 256) (hd : 0 ≤ d ∧ d < 256) (w : World) :
    Calls Try.prog 52 #[.agg #[.int .u8 a, .int .u8 b, .int .u8 c, .int .u8 d]] w fun e w' => e = .returned (.int .u32 (entry_number.of a b c d)) ∧ Below w.heap.size w w' := by
  obtain ⟨ha0, ha1⟩ := ha
  obtain ⟨hb0, hb1⟩ := hb
  obtain ⟨hc0, hc1⟩ := hc
  obtain ⟨hd0, hd1⟩ := hd
  have i0 : ∀ w, (Instr.index 89 (.agg #[.int .u8 a, .int .u8 b, .int .u8 c, .int .u8 d]) (.int .i64 0)).run Try.prog w = .ok (.int .u8 a) w := fun _ => by kernel_rfl
  have i1 : ∀ w, (Instr.index 89 (.agg #[.int .u8 a, .int .u8 b, .int .u8 c, .int .u8 d]) (.int .i64 1)).run Try.prog w = .ok (.int .u8 b) w := fun _ => by kernel_rfl
  have i2 : ∀ w, (Instr.index 89 (.agg #[.int .u8 a, .int .u8 b, .int .u8 c, .int .u8 d]) (.int .i64 2)).run Try.prog w = .ok (.int .u8 c) w := fun _ => by kernel_rfl
  have i3 : ∀ w, (Instr.index 89 (.agg #[.int .u8 a, .int .u8 b, .int .u8 c, .int .u8 d]) (.int .i64 3)).run Try.prog w = .ok (.int .u8 d) w := fun _ => by kernel_rfl
  have sh : ∀ (x y : Int), 0 ≤ x → x < 16777216 → 0 ≤ y → y < 256 → bits .or .u32 (x * 256) y = x * 256 + y := fun x y h0 h1 h2 h3 => by
    rw [u32_or _ _ (by omega) (by omega) (by omega) (by omega), Nat.or_comm, entry_number.join _ _ (by omega) (by omega)]
    omega
  have hx0 := sh 0 a (by omega) (by omega) ha0 ha1
  have hx1 := sh a b (by omega) (by omega) hb0 hb1
  have hx2 := sh (a * 256 + b) c (by omega) (by omega) hc0 hc1
  have hx3 := sh ((a * 256 + b) * 256 + c) d (by omega) (by omega) hd0 hd1
  obtain ⟨y1, hy1⟩ : ∃ y1, y1 = a * 256 + b := ⟨_, rfl⟩
  rw [← hy1] at hx1 hx2 hx3
  obtain ⟨y2, hy2⟩ : ∃ y2, y2 = y1 * 256 + c := ⟨_, rfl⟩
  rw [← hy2] at hx2 hx3
  obtain ⟨y3, hy3⟩ : ∃ y3, y3 = y2 * 256 + d := ⟨_, rfl⟩
  rw [← hy3] at hx3
  have hof : entry_number.of a b c d = y3 := by unfold entry_number.of; omega
  rw [hof]
  have g1 : 0 ≤ y1 ∧ y1 < 65536 := by omega
  have g2 : 0 ≤ y2 ∧ y2 < 16777216 := by omega
  have g3 : 0 ≤ y3 ∧ y3 < 4294967296 := by omega
  obtain ⟨g10, g11⟩ := g1
  obtain ⟨g20, g21⟩ := g2
  obtain ⟨g30, g31⟩ := g3
  have hx0' : bits .or .u32 0 a = a := by simpa using hx0
  clear sh hx0 hof hy1 hy2 hy3
  go_enter Try.func52, Try.ntmps52
  go_wp2
  refine wp_loop_rounds 5 ?_
  rw [rounds_succ]
  go_wp2
  rw [rounds_succ]
  go_wp2
  rw [rounds_succ]
  go_wp2
  rw [rounds_succ]
  go_wp2
  rw [rounds_succ]
  go_wp2
  go_ret
  exact ⟨rfl, below_alloc (Below.refl _ _) _⟩

/-! ### entry_known: function 53 -/
def entry_known.f (a0 : Int) : Option (Bool) := if a0 ≥ 1 then (some (decide (a0 ≤ 3))) else (some false)
set_option maxHeartbeats 8000000 in
set_option maxRecDepth 100000 in
theorem entry_known.calls (a0 : Int) (r : Bool) (w : World) (h : entry_known.f a0 = some r) :
    Calls Try.prog 53 #[.int .i64 a0] w fun e w' => e = .returned (.bool r) ∧ Drawn0 w w' := by
  have H : (if a0 ≥ 1 then (some (decide (a0 ≤ 3))) else (some false)) = some r := h
  clear h
  by_cases c2 : a0 ≥ 1
  · rw [if_pos c2] at H
    have c2b0 : decide (1 ≤ a0) = true := decide_eq_true c2
    clear c2
    obtain rfl := Option.some.inj H
    go_enter Try.func53, Try.ntmps53
    go_wp2
    go_ret
    exact ⟨by (rfl), by repeat (exact Drawn0.refl _)⟩
  rw [if_neg c2] at H
  have c2b0 : decide (1 ≤ a0) = false := decide_eq_false c2
  clear c2
  obtain rfl := Option.some.inj H
  go_enter Try.func53, Try.ntmps53
  go_wp2
  go_ret
  exact ⟨by (rfl), by repeat (exact Drawn0.refl _)⟩

/-! ### entry_Read: function 35 (given) -/
def entry_Read.n (l : List Int) (i : Nat) : Int := entry_number.of (rd l (i : Int)) (rd l ((i + 1 : Nat) : Int)) (rd l ((i + 2 : Nat) : Int)) (rd l ((i + 3 : Nat) : Int))
def entry_Read.byt (x : Int) : Prop := 0 ≤ x ∧ x < 256
instance (x : Int) : Decidable (entry_Read.byt x) := by unfold entry_Read.byt; exact inferInstance
/-- behind the first tests: there are four bytes -/
def entry_Read.g (l : List Int) (i : Nat) : Option (Int × List Int × List Int × Int × Int) :=
  if entry_Read.byt (rd l (i : Int)) ∧ entry_Read.byt (rd l ((i + 1 : Nat) : Int)) ∧ entry_Read.byt (rd l ((i + 2 : Nat) : Int)) ∧ entry_Read.byt (rd l ((i + 3 : Nat) : Int)) then
    (if entry_Read.n l i = 0 then some (0, [], [], 0, 2)
    else if 1025 < entry_Read.n l i then some (0, [], [], 0, 3)
    else if (l.length : Int) - i - 4 < entry_Read.n l i + 32 then some (0, [], [], 0, 1)
    else if entry_Read.byt (rd l ((i + 4 : Nat) : Int)) then
      (if 1 ≤ rd l ((i + 4 : Nat) : Int) ∧ rd l ((i + 4 : Nat) : Int) ≤ 3 then
        some (rd l ((i + 4 : Nat) : Int), (l.take (i + 4 + (entry_Read.n l i).toNat)).drop (i + 5), (l.take (i + 4 + (entry_Read.n l i).toNat + 32)).drop (i + 4 + (entry_Read.n l i).toNat), (i : Int) + 4 + entry_Read.n l i + 32, 0)
      else some (0, [], [], 0, 23))
    else none)
  else none
def entry_Read.f (l : List Int) (a : Int) : Option (Int × List Int × List Int × Int × Int) :=
  if l.length < 140737488355328 then
    (if a < 0 ∨ (l.length : Int) < a then some (0, [], [], 0, 13)
    else if (l.length : Int) - a < 4 then some (0, [], [], 0, 1)
    else entry_Read.g l a.toNat)
  else none
set_option maxHeartbeats 8000000 in
set_option maxRecDepth 100000 in
theorem entry_Read.calls (A0 : Option Addr) (c0 : Nat) (l0 : List Int) (a1 : Int) (r1 : Int) (r2 : List Int) (r3 : List Int) (r4 : Int) (r5 : Int) (w : World) (hr0 : Kd.C (Kd.int .u8) w A0 l0.length l0) (hc0 : l0.length ≤ c0) (h : entry_Read.f l0 a1 = some (r1, r2, r3, r4, r5)) :
    Calls Try.prog 35 #[.slice A0 l0.length c0, .int .i64 a1] w fun e w' => ∃ v1_ v2_ : Value, e = .returned (.tuple #[.agg #[.int .i64 r1, v1_], v2_, .int .i64 r4, .int .i64 r5]) ∧ Kd.R (Kd.int .u8) 5 w' w.heap.size (fun k_ => some k_ ≠ (v2_ : Value).ownBlock) v1_ r2 ∧ Kd.R (Kd.int .u8) 5 w' w.heap.size (fun k_ => some k_ ≠ (v1_ : Value).ownBlock) v2_ r3 ∧ Below w.heap.size w w' := by
  unfold entry_Read.f at h
  by_cases hlen : l0.length < 140737488355328
  case neg => rw [if_neg hlen] at h; exact absurd h (by simp)
  rw [if_pos hlen] at h
  have hu := Try.underlying35
  have HR := Aside0.mk hr0
  have HC := Aside0.mk hc0
  clear hr0 hc0
  have fin0 : ∀ (W : World) (x : Int), Below w.heap.size w W → ∃ v1_ v2_ : Value, Ending.returned (.tuple #[.agg #[.int .i64 0, .slice none 0 0], .slice none 0 0, .int .i64 0, .int .i64 x]) = .returned (.tuple #[.agg #[.int .i64 0, v1_], v2_, .int .i64 0, .int .i64 x]) ∧ Kd.R (Kd.int .u8) 5 W w.heap.size (fun k_ => some k_ ≠ (v2_ : Value).ownBlock) v1_ [] ∧ Kd.R (Kd.int .u8) 5 W w.heap.size (fun k_ => some k_ ≠ (v1_ : Value).ownBlock) v2_ [] ∧ Below w.heap.size w W := fun W x hb => ⟨_, _, rfl, Kd.R_nil _ _ _ _ _, Kd.R_nil _ _ _ _ _, hb⟩
  have FIN0 := Aside0.mk fin0
  clear fin0
  by_cases hneg : a1 < 0
  · rw [if_pos (.inl hneg)] at h
    simp only [Option.some.injEq, Prod.mk.injEq] at h
    obtain ⟨rfl, rfl, rfl, rfl, rfl⟩ := h
    have hd : decide (a1 < 0) = true := decide_eq_true hneg
    clear hneg
    go_enter Try.func35, Try.ntmps35
    go_wp2
    refine bodyPost_ret (results_list (rs := [.cell 4 35, .tmp 5, .tmp 6, .tmp 7]) rfl (by simp) (.cell _ 35 _ (0, 0) _ rfl (blk_new _ _) Try.underlying35 rfl (by kernel_rfl) (.tmp (.tmp (.tmp .nil))))) rfl ?_
    exact FIN0.out _ _ (below_alloc (Below.refl _ _) _)
  by_cases hgt : (l0.length : Int) < a1
  · rw [if_pos (.inr hgt)] at h
    simp only [Option.some.injEq, Prod.mk.injEq] at h
    obtain ⟨rfl, rfl, rfl, rfl, rfl⟩ := h
    have hd : decide (a1 < 0) = false := decide_eq_false hneg
    have hd2 : decide ((l0.length : Int) < a1) = true := decide_eq_true hgt
    clear hneg hgt
    go_enter Try.func35, Try.ntmps35
    go_wp2
    refine bodyPost_ret (results_list (rs := [.cell 4 35, .tmp 5, .tmp 6, .tmp 7]) rfl (by simp) (.cell _ 35 _ (0, 0) _ rfl (blk_new _ _) Try.underlying35 rfl (by kernel_rfl) (.tmp (.tmp (.tmp .nil))))) rfl ?_
    exact FIN0.out _ _ (below_alloc (Below.refl _ _) _)
  rw [if_neg (fun hh => hh.elim hneg hgt)] at h
  obtain ⟨i, rfl⟩ : ∃ i : Nat, a1 = (i : Int) := ⟨a1.toNat, by omega⟩
  have hi : i ≤ l0.length := by omega
  have hd : decide ((i : Int) < 0) = false := decide_eq_false hneg
  have hd2 : decide ((l0.length : Int) < (i : Int)) = false := decide_eq_false hgt
  have hw1 : IntKind.i64.wrap ((l0.length : Int) - (i : Int)) = (l0.length : Int) - (i : Int) := IntWalk.i64_in _ (by omega)
  clear hneg hgt
  by_cases hsh : (l0.length : Int) - i < 4
  · rw [if_pos hsh] at h
    simp only [Option.some.injEq, Prod.mk.injEq] at h
    obtain ⟨rfl, rfl, rfl, rfl, rfl⟩ := h
    have hd3 : decide ((l0.length : Int) - (i : Int) < 4) = true := decide_eq_true hsh
    clear hsh
    go_enter Try.func35, Try.ntmps35
    go_wp2
    refine bodyPost_ret (results_list (rs := [.cell 4 35, .tmp 5, .tmp 6, .tmp 7]) rfl (by simp) (.cell _ 35 _ (0, 0) _ rfl (blk_new _ _) Try.underlying35 rfl (by kernel_rfl) (.tmp (.tmp (.tmp .nil))))) rfl ?_
    exact FIN0.out _ _ (below_alloc (Below.refl _ _) _)
  rw [if_neg hsh] at h
  simp only [Int.toNat_natCast] at h
  unfold entry_Read.g at h
  have hd3 : decide ((l0.length : Int) - (i : Int) < 4) = false := decide_eq_false hsh
  by_cases hby : entry_Read.byt (rd l0 (i : Int)) ∧ entry_Read.byt (rd l0 ((i + 1 : Nat) : Int)) ∧ entry_Read.byt (rd l0 ((i + 2 : Nat) : Int)) ∧ entry_Read.byt (rd l0 ((i + 3 : Nat) : Int))
  case neg => rw [if_neg hby] at h; exact absurd h (by simp)
  rw [if_pos hby] at h
  have HBY := Aside0.mk hby
  have hw4 : IntKind.i64.wrap ((i : Int) + 4) = (i : Int) + 4 := IntWalk.i64_in _ (by omega)
  obtain ⟨i0, hi0, _, hsz0, _⟩ := info_parts info5
  obtain ⟨A', hcut, hrd, hle⟩ := print_mid_of (P := Try.prog) (Value.int .u8) 0 22 5 .i64 .i64 Try.underlying22 hi0 hsz0 A0 c0 l0 (i : Int) ((i : Int) + 4) (by omega) (by omega) (by omega) HC.out
  have hl4 : ((l0.take ((i : Int) + 4).toNat).drop (i : Int).toNat).length = 4 := by rw [List.length_drop, List.length_take]; omega
  have hreads := hrd w (Kd.reads_of_C HR.out)
  rw [hl4] at hcut hreads hle
  obtain ⟨ad, rfl, hcells⟩ := hreads.2.2 (by omega)
  have cell : ∀ j, j < 4 → w.cell? (ad.add j) = some (.int .u8 (rd l0 ((i + j : Nat) : Int))) := fun j hj => by
    rw [hcells j hj]
    congr 2
    unfold rd
    rw [Int.toNat_natCast, List.getD_eq_getElem?_getD, List.getD_eq_getElem?_getD, List.getElem?_drop, List.getElem?_take_of_lt (by omega), Int.toNat_natCast]
  have q0 : w.cell? ad = some (.int .u8 (rd l0 (i : Int))) := by have := cell 0 (by omega); simpa [Addr.add] using this
  have q1 : w.cell? ⟨ad.block, ad.off + 1, none⟩ = some (.int .u8 (rd l0 ((i + 1 : Nat) : Int))) := by have := cell 1 (by omega); simpa [Addr.add] using this
  have q2 : w.cell? ⟨ad.block, ad.off + 2, none⟩ = some (.int .u8 (rd l0 ((i + 2 : Nat) : Int))) := by have := cell 2 (by omega); simpa [Addr.add] using this
  have q3 : w.cell? ⟨ad.block, ad.off + 3, none⟩ = some (.int .u8 (rd l0 ((i + 3 : Nat) : Int))) := by have := cell 3 (by omega); simpa [Addr.add] using this
  have HNUM := Aside0.mk (entry_number.calls _ _ _ _ hby.1 hby.2.1 hby.2.2.1 hby.2.2.2)
  obtain ⟨n, hn⟩ : ∃ n, n = entry_Read.n l0 i := ⟨_, rfl⟩
  rw [show entry_number.of (rd l0 (i : Int)) (rd l0 ((i + 1 : Nat) : Int)) (rd l0 ((i + 2 : Nat) : Int)) (rd l0 ((i + 3 : Nat) : Int)) = n from hn.symm] at HNUM
  rw [← hn] at h
  have hn0 : 0 ≤ n ∧ n < 4294967296 := by
    obtain ⟨⟨a1, a2⟩, ⟨b1, b2⟩, ⟨c1, c2⟩, d1, d2⟩ := hby
    rw [hn]
    unfold entry_Read.n entry_number.of
    omega
  obtain ⟨hn1, hn2⟩ := hn0
  clear hn hby hcells cell hreads hrd hi0 hsz0 hl4 hle
  generalize rd l0 (i : Int) = b0 at *
  generalize rd l0 ((i + 1 : Nat) : Int) = b1 at *
  generalize rd l0 ((i + 2 : Nat) : Int) = b2 at *
  generalize rd l0 ((i + 3 : Nat) : Int) = b3 at *
  have qa0 := fun o => pw_cell_below (below_alloc (Below.refl w.heap.size w) o) q0
  have qa1 := fun o => pw_cell_below (below_alloc (Below.refl w.heap.size w) o) q1
  have qa2 := fun o => pw_cell_below (below_alloc (Below.refl w.heap.size w) o) q2
  have qa3 := fun o => pw_cell_below (below_alloc (Below.refl w.heap.size w) o) q3
  have harr : ∀ W, (Instr.arrayAt 89 (.slice (some ad) 4 (c0 - i))).run Try.prog W = .ok (.pointer (some ad)) W := fun W => run_arrayAt W _ 5 4 _ _ _ Try.underlying89 (Nat.le_refl _)
  by_cases hz : n = 0
  · rw [if_pos hz] at h
    simp only [Option.some.injEq, Prod.mk.injEq] at h
    obtain ⟨rfl, rfl, rfl, rfl, rfl⟩ := h
    have hz1 : (n == 0) = true := beq_iff_eq.mpr hz
    clear hz
    go_enter Try.func35, Try.ntmps35
    go_wp2_with (go_at_call 52; (with_reducible refine (HNUM.out _).mono ?_); rintro e w1 ⟨rfl, hb1⟩; (have hbk1 : w1.heap[w.heap.size]? = some (.cells #[.int .i64 0, .slice none 0 0] 35 (0, 0)) := blk_below (blk_new _ _) hb1); (have s0 : w1.cell? ⟨w.heap.size, 0, none⟩ = some (.int .i64 0) := (blk_cell hbk1 0).trans rfl); (have s1 : w1.cell? ⟨w.heap.size, 1, none⟩ = some (.slice none 0 0) := (blk_cell hbk1 1).trans rfl); (have f0 := blk_frozen hbk1 0); (have f1 := blk_frozen hbk1 1); (have HBK := Aside0.mk hbk1); (have HB1 : Aside0 (Below w.heap.size w w1) := ⟨below_step (below_alloc (Below.refl _ _) _) hb1⟩); clear hb1 hbk1)
    refine bodyPost_ret (results_list (rs := [.cell 4 35, .tmp 5, .tmp 6, .tmp 7]) rfl (by simp) (.cell _ 35 _ (0, 0) _ rfl (blk_put (blk_put HBK.out 0 (.int .i64 0) rfl) 1 (.slice none 0 0) rfl) Try.underlying35 rfl (by kernel_rfl) (.tmp (.tmp (.tmp .nil))))) rfl ?_
    exact FIN0.out _ _ (below_set (below_set HB1.out (Nat.le_refl _)) (Nat.le_refl _))
  rw [if_neg hz] at h
  have hz1 : (n == 0) = false := beq_eq_false_iff_ne.mpr hz
  by_cases hlong : 1025 < n
  · rw [if_pos hlong] at h
    simp only [Option.some.injEq, Prod.mk.injEq] at h
    obtain ⟨rfl, rfl, rfl, rfl, rfl⟩ := h
    have hz2 : decide (1025 < n) = true := decide_eq_true hlong
    clear hz hlong
    go_enter Try.func35, Try.ntmps35
    go_wp2_with (go_at_call 52; (with_reducible refine (HNUM.out _).mono ?_); rintro e w1 ⟨rfl, hb1⟩; (have hbk1 : w1.heap[w.heap.size]? = some (.cells #[.int .i64 0, .slice none 0 0] 35 (0, 0)) := blk_below (blk_new _ _) hb1); (have s0 : w1.cell? ⟨w.heap.size, 0, none⟩ = some (.int .i64 0) := (blk_cell hbk1 0).trans rfl); (have s1 : w1.cell? ⟨w.heap.size, 1, none⟩ = some (.slice none 0 0) := (blk_cell hbk1 1).trans rfl); (have f0 := blk_frozen hbk1 0); (have f1 := blk_frozen hbk1 1); (have HBK := Aside0.mk hbk1); (have HB1 : Aside0 (Below w.heap.size w w1) := ⟨below_step (below_alloc (Below.refl _ _) _) hb1⟩); clear hb1 hbk1)
    refine bodyPost_ret (results_list (rs := [.cell 4 35, .tmp 5, .tmp 6, .tmp 7]) rfl (by simp) (.cell _ 35 _ (0, 0) _ rfl (blk_put (blk_put HBK.out 0 (.int .i64 0) rfl) 1 (.slice none 0 0) rfl) Try.underlying35 rfl (by kernel_rfl) (.tmp (.tmp (.tmp .nil))))) rfl ?_
    exact FIN0.out _ _ (below_set (below_set HB1.out (Nat.le_refl _)) (Nat.le_refl _))
  rw [if_neg hlong] at h
  have hz2 : decide (1025 < n) = false := decide_eq_false hlong
  have hw5 : IntKind.i64.wrap ((l0.length : Int) - (i : Int) - 4) = (l0.length : Int) - (i : Int) - 4 := IntWalk.i64_in _ (by omega)
  have hw6 : IntKind.i64.wrap (n + 32) = n + 32 := IntWalk.i64_in _ (by omega)
  have hw6' : IntKind.i64.wrap n = n := IntWalk.i64_in _ (by omega)
  by_cases hsh2 : (l0.length : Int) - i - 4 < n + 32
  · rw [if_pos hsh2] at h
    simp only [Option.some.injEq, Prod.mk.injEq] at h
    obtain ⟨rfl, rfl, rfl, rfl, rfl⟩ := h
    have hz3 : decide ((l0.length : Int) - (i : Int) - 4 < n + 32) = true := decide_eq_true hsh2
    clear hz hlong hsh2
    go_enter Try.func35, Try.ntmps35
    go_wp2_with (go_at_call 52; (with_reducible refine (HNUM.out _).mono ?_); rintro e w1 ⟨rfl, hb1⟩; (have hbk1 : w1.heap[w.heap.size]? = some (.cells #[.int .i64 0, .slice none 0 0] 35 (0, 0)) := blk_below (blk_new _ _) hb1); (have s0 : w1.cell? ⟨w.heap.size, 0, none⟩ = some (.int .i64 0) := (blk_cell hbk1 0).trans rfl); (have s1 : w1.cell? ⟨w.heap.size, 1, none⟩ = some (.slice none 0 0) := (blk_cell hbk1 1).trans rfl); (have f0 := blk_frozen hbk1 0); (have f1 := blk_frozen hbk1 1); (have HBK := Aside0.mk hbk1); (have HB1 : Aside0 (Below w.heap.size w w1) := ⟨below_step (below_alloc (Below.refl _ _) _) hb1⟩); clear hb1 hbk1)
    refine bodyPost_ret (results_list (rs := [.cell 4 35, .tmp 5, .tmp 6, .tmp 7]) rfl (by simp) (.cell _ 35 _ (0, 0) _ rfl (blk_put (blk_put HBK.out 0 (.int .i64 0) rfl) 1 (.slice none 0 0) rfl) Try.underlying35 rfl (by kernel_rfl) (.tmp (.tmp (.tmp .nil))))) rfl ?_
    exact FIN0.out _ _ (below_set (below_set HB1.out (Nat.le_refl _)) (Nat.le_refl _))
  rw [if_neg hsh2] at h
  have hz3 : decide ((l0.length : Int) - (i : Int) - 4 < n + 32) = false := decide_eq_false hsh2
  by_cases hby4 : entry_Read.byt (rd l0 ((i + 4 : Nat) : Int))
  case neg => rw [if_neg hby4] at h; exact absurd h (by simp)
  rw [if_pos hby4] at h
  obtain ⟨hk0, hk1⟩ := hby4
  obtain ⟨m, rfl⟩ : ∃ m : Nat, n = (m : Int) := ⟨n.toNat, by omega⟩
  have hm : m ≤ 1025 := by omega
  clear hn1 hn2
  have hroom : i + 4 + m + 32 ≤ l0.length := by omega
  obtain ⟨ad0, hA0, kcell⟩ := Kd.at_int HR.out ((i : Int) + 4) (by omega) (by omega)
  have hto : ((i : Int) + 4).toNat = i + 4 := by omega
  have kcell2 := kcell
  rw [hto] at kcell
  have hcast : ((i + 4 : Nat) : Int) = (i : Int) + 4 := by omega
  rw [hcast] at h hk0 hk1
  subst hA0
  generalize rd l0 ((i : Int) + 4) = kb at *
  clear hcast hto
  have hlt : (i : Int) + 4 < (l0.length : Int) := by omega
  have hge : (0 : Int) ≤ (i : Int) + 4 := by omega
  have ka := fun o => pw_cell_below (below_alloc (Below.refl w.heap.size w) o) kcell
  have KC := Aside0.mk kcell
  have kcell3 : w.cell? ⟨ad0.block, ad0.off + (i + 3 + 1), none⟩ = some (.int .u8 kb) := by have := kcell; rwa [show ad0.add (i + 4) = ⟨ad0.block, ad0.off + (i + 3 + 1), none⟩ by unfold Addr.add; simp] at this
  have KC2 := Aside0.mk kcell3
  have hw7 : IntKind.i64.wrap ((i : Int) + 4 + (m : Int)) = (i : Int) + 4 + (m : Int) := IntWalk.i64_in _ (by omega)
  simp only [Int.toNat_natCast] at h
  by_cases hkn : 1 ≤ kb ∧ kb ≤ 3
  case neg =>
    rw [if_neg hkn] at h
    simp only [Option.some.injEq, Prod.mk.injEq] at h
    obtain ⟨rfl, rfl, rfl, rfl, rfl⟩ := h
    have HKN : Aside0 (entry_known.f kb = some false) := ⟨by
      unfold entry_known.f
      by_cases c : kb ≥ 1
      · rw [if_pos c, decide_eq_false (fun hh => hkn ⟨c, hh⟩)]
      · rw [if_neg c]⟩
    clear hz hlong hsh2 hkn
    go_enter Try.func35, Try.ntmps35
    go_wp2_with (first | (go_at_call 52; (with_reducible refine (HNUM.out _).mono ?_); rintro e w1 ⟨rfl, hb1⟩; (have hbk1 : w1.heap[w.heap.size]? = some (.cells #[.int .i64 0, .slice none 0 0] 35 (0, 0)) := blk_below (blk_new _ _) hb1); (have s0 : w1.cell? ⟨w.heap.size, 0, none⟩ = some (.int .i64 0) := (blk_cell hbk1 0).trans rfl); (have s1 : w1.cell? ⟨w.heap.size, 1, none⟩ = some (.slice none 0 0) := (blk_cell hbk1 1).trans rfl); (have f0 := blk_frozen hbk1 0); (have f1 := blk_frozen hbk1 1); (have HBK := Aside0.mk hbk1); (have HB1 : Aside0 (Below w.heap.size w w1) := ⟨below_step (below_alloc (Below.refl _ _) _) hb1⟩); clear hb1 hbk1; have kc1 := pw_cell_below HB1.out KC.out; have kc2 := pw_cell_below HB1.out KC2.out) | (go_at_call 53; (with_reducible refine (entry_known.calls kb false _ HKN.out).mono ?_); rintro e w' ⟨rfl, ⟨nd, rfl⟩⟩))
    refine bodyPost_ret (results_list (rs := [.cell 4 35, .tmp 5, .tmp 6, .tmp 7]) rfl (by simp) (.cell _ 35 #[.int .i64 0, .slice none 0 0] (0, 0) _ rfl (blk_put (blk_put (blk_drewN HBK.out nd) 0 (.int .i64 0) rfl) 1 (.slice none 0 0) rfl) Try.underlying35 rfl (by kernel_rfl) (.tmp (.tmp (.tmp .nil))))) rfl ?_
    exact FIN0.out _ _ (by repeat (first | exact HB1.out | apply pw_below_drewN | (refine below_set ?_ (Nat.le_refl _))))
  rw [if_pos hkn] at h
  simp only [Option.some.injEq, Prod.mk.injEq] at h
  obtain ⟨rfl, hr2, hr3, rfl, rfl⟩ := h
  have HKN : Aside0 (entry_known.f kb = some true) := ⟨by
    unfold entry_known.f
    rw [if_pos hkn.1, decide_eq_true hkn.2]⟩
  have hw8 : IntKind.i64.wrap ((i : Int) + 4 + 1) = (i : Int) + 5 := by rw [IntWalk.i64_in _ (by omega)]; omega
  have hw9 : IntKind.i64.wrap ((i : Int) + 4 + (m : Int) + 32) = (i : Int) + 4 + (m : Int) + 32 := IntWalk.i64_in _ (by omega)
  obtain ⟨i0', hi0, _, hsz0, _⟩ := info_parts info5
  have hmpos : 1 ≤ m := by
    rcases Nat.eq_zero_or_pos m with hh | hh
    · exact absurd (by rw [hh]; rfl) hz
    · exact hh
  obtain ⟨A5, hcut5, hrd5, hle5⟩ := print_mid_of (P := Try.prog) (Value.int .u8) 0 22 5 .i64 .i64 Try.underlying22 hi0 hsz0 (some ad0) c0 l0 ((i : Int) + 5) ((i : Int) + 4 + (m : Int)) (by omega) (by omega) (by omega) HC.out
  obtain ⟨A6, hcut6, hrd6, hle6⟩ := print_mid_of (P := Try.prog) (Value.int .u8) 0 22 5 .i64 .i64 Try.underlying22 hi0 hsz0 (some ad0) c0 l0 ((i : Int) + 4 + (m : Int)) ((i : Int) + 4 + (m : Int) + 32) (by omega) (by omega) (by omega) HC.out
  have hb5 := hrd5 w (Kd.reads_of_C HR.out)
  have hb6 := hrd6 w (Kd.reads_of_C HR.out)
  rw [show ((i : Int) + 4 + (m : Int)).toNat = i + 4 + m by omega, show ((i : Int) + 5).toNat = i + 5 by omega, hr2] at hcut5 hb5 hle5
  rw [show ((i : Int) + 4 + (m : Int) + 32).toNat = i + 4 + m + 32 by omega, show ((i : Int) + 4 + (m : Int)).toNat = i + 4 + m by omega, hr3] at hcut6 hb6 hle6
  have H5 : Aside0 (Kd.C (Kd.int .u8) w A5 r2.length r2) := ⟨Kd.C_of_reads (h1 := fun _ => rfl) hb5⟩
  have H6 : Aside0 (Kd.C (Kd.int .u8) w A6 r3.length r3) := ⟨Kd.C_of_reads (h1 := fun _ => rfl) hb6⟩
  have HE5 := Aside0.mk hle5
  have HE6 := Aside0.mk hle6
  have F5 : Aside0 (slices_Clone_byte_byte.f r2 = some r2) := ⟨by unfold slices_Clone_byte_byte.f; rw [if_pos (by rw [← hr2, List.length_drop, List.length_take]; omega)]⟩
  have F6 : Aside0 (slices_Clone_byte_byte.f r3 = some r3) := ⟨by unfold slices_Clone_byte_byte.f; rw [if_pos (by rw [← hr3, List.length_drop, List.length_take]; omega)]⟩
  clear hz hlong hsh2 hkn hb5 hb6 hrd5 hrd6 hle5 hle6 hi0 hsz0 hr2 hr3 hmpos
  generalize c0 - (i + 5) = c5 at hcut5 HE5
  generalize c0 - (i + 4 + m) = c6 at hcut6 HE6
  go_enter Try.func35, Try.ntmps35
  go_wp2_with (first | (go_at_call 52; (with_reducible refine (HNUM.out _).mono ?_); rintro e w1 ⟨rfl, hb1⟩; (have hbk1 : w1.heap[w.heap.size]? = some (.cells #[.int .i64 0, .slice none 0 0] 35 (0, 0)) := blk_below (blk_new _ _) hb1); (have s0 : w1.cell? ⟨w.heap.size, 0, none⟩ = some (.int .i64 0) := (blk_cell hbk1 0).trans rfl); (have s1 : w1.cell? ⟨w.heap.size, 1, none⟩ = some (.slice none 0 0) := (blk_cell hbk1 1).trans rfl); (have f0 := blk_frozen hbk1 0); (have f1 := blk_frozen hbk1 1); (have HBK := Aside0.mk hbk1); (have HB1 : Aside0 (Below w.heap.size w w1) := ⟨below_step (below_alloc (Below.refl _ _) _) hb1⟩); clear hb1 hbk1; have kc1 := pw_cell_below HB1.out KC.out; have kc2 := pw_cell_below HB1.out KC2.out) | (go_at_call 53; (with_reducible refine (entry_known.calls kb true _ HKN.out).mono ?_); rintro e w' ⟨rfl, ⟨nd, rfl⟩⟩))
  have nk := World.new_ne w1 _ kc1
  have HNK := Aside0.mk nk
  generalize hW1 : w1.drewN nd = W1
  have kd1 : W1.cell? (ad0.add (i + 4)) = some (.int .u8 kb) := by rw [← hW1]; exact pw_cell_below (pw_below_drewN (Below.refl w1.heap.size w1) nd) kc1
  have kd2 : W1.cell? ⟨ad0.block, ad0.off + (i + 3 + 1), none⟩ = some (.int .u8 kb) := by rw [← hW1]; exact pw_cell_below (pw_below_drewN (Below.refl w1.heap.size w1) nd) kc2
  have HBd : Aside0 (Below w.heap.size w W1) := ⟨by rw [← hW1]; exact pw_below_drewN HB1.out nd⟩
  have HBKd : Aside0 (W1.heap[w.heap.size]? = some (.cells #[.int .i64 0, .slice none 0 0] 35 (0, 0))) := ⟨by rw [← hW1]; exact blk_drewN HBK.out nd⟩
  have KC3 : Aside0 (w.cell? (ad0.add ((i : Int) + 4).toNat) = some (.int .u8 kb)) := ⟨by rw [show ((i : Int) + 4).toNat = i + 4 by omega]; exact KC.out⟩
  clear hW1 s0 s1 f0 f1 kc1 kc2 HBK HB1 nk HNK qa0 qa1 qa2 qa3 q0 q1 q2 q3 ka kcell kcell2 kcell3 harr hcut
  have kd3 : W1.cell? (ad0.add ((i : Int) + 4).toNat) = some (.int .u8 kb) := by rw [show ((i : Int) + 4).toNat = i + 4 by omega]; exact kd1
  have hwk : IntKind.i64.wrap kb = kb := IntWalk.i64_in _ (by omega)
  have n1 := World.new_ne W1 _ kd1
  have n3 := World.new_ne W1 _ kd3
  have n2 := World.new_ne W1 _ kd2
  go_region_held3 (fun w' => w'.cell? (ad0.add (i + 4)) = some (.int .u8 kb) ∧ w'.cell? ⟨ad0.block, ad0.off + (i + 3 + 1), none⟩ = some (.int .u8 kb) ∧ w'.cell? (ad0.add ((i : Int) + 4).toNat) = some (.int .u8 kb)) (go_keep) ((go_at_call 33; refine (slices_Clone_byte_byte.calls A5 c5 r2 r2 _ ?h1 HE5.out F5.out).mono ?_; (case h1 => exact Kd.C_below H5.out (by repeat (first | exact HBd.out | apply below_alloc | apply below_drew))); rintro e w2 ⟨v2, rfl, ho2, hb2⟩; (have HO2 := Aside0.mk ho2); (have HB2 := Aside0.mk hb2); (obtain ⟨A2, c2, rfl⟩ := Kd.R_slice ho2); (have HB2w : Aside0 (Below w.heap.size w w2) := ⟨below_step (by repeat (first | exact HBd.out | apply below_alloc | apply below_drew)) hb2⟩); (try (with_reducible have hk9 : Below (W1.alloc (.cells #[.int .i64 0, .slice none 0 0] 35)).drew.heap.size (W1.alloc (.cells #[.int .i64 0, .slice none 0 0] 35)).drew w2 := hb2; (have hb9 : w2.heap[W1.heap.size]? = some (.cells #[.int .i64 0, .slice none 0 0] 35 (0, 0)) := blk_below (blk_drew (blk_new _ _)) hk9); have HB9 := Aside0.mk hb9; have u0 : w2.cell? ⟨W1.heap.size, 0, none⟩ = some (.int .i64 0) := (blk_cell hb9 0).trans rfl; have u1 : w2.cell? ⟨W1.heap.size, 1, none⟩ = some (.slice none 0 0) := (blk_cell hb9 1).trans rfl; have v0 := blk_frozen hb9 0; have v1' := blk_frozen hb9 1; clear hb9 hk9)); (have e1 := pw_cell_below HB2w.out KC.out); (have e2 := pw_cell_below HB2w.out KC2.out); (have e3 := pw_cell_below HB2w.out KC3.out); clear ho2 hb2))
  all_goals skip
  all_goals go_wp2
  · obtain ⟨W3, hW3⟩ : ∃ W3, W3 = w2.alloc (.cells #[.int .i64 kb, .slice A2 r2.length c2] 35) := ⟨_, rfl⟩
    have hlt1 : w.heap.size < w2.heap.size := Nat.lt_of_lt_of_le (blk_lt HBKd.out) (by have := HB2.out.size; simpa using this)
    have hlt2 := hlt1
    have HX3 : Aside0 (W3.heap[w2.heap.size]? = some (.cells #[.int .i64 kb, .slice A2 r2.length c2] 35 (0, 0))) := ⟨by rw [hW3]; exact blk_new _ _⟩
    have HBK3 : Aside0 (W3.heap[w.heap.size]? = some (.cells #[.int .i64 0, .slice none 0 0] 35 (0, 0))) := ⟨by rw [hW3]; exact blk_alloc (blk_below (blk_drew HBKd.out) HB2.out) _⟩
    have HB3 : Aside0 (Below w.heap.size w W3) := ⟨by rw [hW3]; exact below_alloc HB2w.out _⟩
    have HO3 : Aside0 (Kd.R (Kd.int .u8) 5 W3 w.heap.size (fun k => w.heap.size < k ∧ k ≠ w2.heap.size ∧ k < W3.heap.size) (.slice A2 r2.length c2) r2) := ⟨by
      have hb := Kd.R_base HO2.out
      have hl := Kd.R_lt HO2.out
      have hw := blk_lt HBKd.out
      rw [hW3]
      refine Kd.R_alloc (Kd.R_reok rfl (Kd.R_lower HO2.out (by have := HBd.out.size; simpa using this)) (fun k hk => ?_)) _
      have h1 : W1.heap.size ≤ k := by simpa using hb k hk
      have h2 := hl k hk
      have h3 : k < (w2.alloc (.cells #[.int .i64 kb, .slice A2 r2.length c2] 35)).heap.size := by simp; omega
      exact ⟨by omega, by omega, h3⟩⟩
    rw [← hW3]
    have HNE : Aside0 (w.heap.size < w2.heap.size) := ⟨by (exact hlt1)⟩
    clear hW3
    have x0 : W3.cell? ⟨w2.heap.size, 0, none⟩ = some (.int .i64 kb) := (blk_cell HX3.out 0).trans rfl
    have x1 : W3.cell? ⟨w2.heap.size, 1, none⟩ = some (.slice A2 r2.length c2) := (blk_cell HX3.out 1).trans rfl
    have nx0 := World.new_ne W3 _ x0
    have nx1 := World.new_ne W3 _ x1
    have f0 := blk_frozen HBK3.out 0
    have f1 := blk_frozen HBK3.out 1
    have s0 : W3.cell? ⟨w.heap.size, 0, none⟩ = some (.int .i64 0) := (blk_cell HBK3.out 0).trans rfl
    have s1 : W3.cell? ⟨w.heap.size, 1, none⟩ = some (.slice none 0 0) := (blk_cell HBK3.out 1).trans rfl
    have fd0 := blk_frozen (blk_drew HBK3.out) 0
    have fd1 := blk_frozen (blk_drew HBK3.out) 1
    clear e1 e2 e3 hlt1 hlt2
    go_region_held3 (fun w' => w'.cell? ⟨w2.heap.size, 0, none⟩ = some (.int .i64 kb) ∧ w'.cell? ⟨w2.heap.size, 1, none⟩ = some (.slice A2 r2.length c2)) (first | go_keep | exact ⟨(blk_cell (blk_far (p := ⟨w.heap.size, 1, none⟩) (blk_far (p := ⟨w.heap.size, 0, none⟩) HX5.out (Nat.ne_of_gt HNE.out) _) (Nat.ne_of_gt HNE.out) _) 0).trans rfl, (blk_cell (blk_far (p := ⟨w.heap.size, 1, none⟩) (blk_far (p := ⟨w.heap.size, 0, none⟩) HX5.out (Nat.ne_of_gt HNE.out) _) (Nat.ne_of_gt HNE.out) _) 1).trans rfl⟩) ((go_at_call 33; refine (slices_Clone_byte_byte.calls A6 c6 r3 r3 _ ?h1 HE6.out F6.out).mono ?_; (case h1 => exact Kd.C_below H6.out (by repeat (first | exact HB3.out | apply below_drew))); rintro e w5 ⟨v5, rfl, ho5, hb5⟩; (have HO5 := Aside0.mk ho5); (have HB5 := Aside0.mk hb5); (have HB5w : Aside0 (Below w.heap.size w w5) := ⟨below_step (by repeat (first | exact HB3.out | apply below_drew)) hb5⟩); (obtain ⟨A7, c7, rfl⟩ := Kd.R_slice ho5); (have hx5 : w5.heap[w2.heap.size]? = some (.cells #[.int .i64 kb, .slice A2 r2.length c2] 35 (0, 0)) := blk_below (by with_reducible (exact blk_drew HX3.out)) hb5); (have y0 : w5.cell? ⟨w2.heap.size, 0, none⟩ = some (.int .i64 kb) := (blk_cell hx5 0).trans rfl); (have y1 : w5.cell? ⟨w2.heap.size, 1, none⟩ = some (.slice A2 r2.length c2) := (blk_cell hx5 1).trans rfl); (try (with_reducible have hk9 : Below W3.drew.heap.size W3.drew w5 := hb5; (have hb9 : w5.heap[w.heap.size]? = some (.cells #[.int .i64 0, .slice none 0 0] 35 (0, 0)) := blk_below (blk_drew HBK3.out) hk9); have HK5 := Aside0.mk hb9; have u0' : w5.cell? ⟨w.heap.size, 0, none⟩ = some (.int .i64 0) := (blk_cell hb9 0).trans rfl; have u1' : w5.cell? ⟨w.heap.size, 1, none⟩ = some (.slice none 0 0) := (blk_cell hb9 1).trans rfl; have v0'' := blk_frozen hb9 0; have v1'' := blk_frozen hb9 1; clear hb9 hk9)); (have HX5 := Aside0.mk hx5); clear hx5 ho5 hb5))
    go_wp2
    have hkp : ∀ u v, Kept w5 ((w5.setCell ⟨w.heap.size, 0, none⟩ u).setCell ⟨w.heap.size, 1, none⟩ v) (fun k => k = w.heap.size) := fun u v => Kept.setCell (p := ⟨w.heap.size, 1, none⟩) (Kept.setCell (p := ⟨w.heap.size, 0, none⟩) (Kept.refl w5 (fun k => k = w.heap.size)) (.inl rfl) _) (.inl rfl) _
    have hb35 : Below W3.heap.size W3 w5 := below_step (below_drew (Below.refl _ _)) HB5.out
    have h7 := Kd.R_base HO5.out
    have hsz3 := HB3.out.size
    refine bodyPost_ret (results_list (rs := [.cell 4 35, .tmp 5, .tmp 6, .tmp 7]) rfl (by simp) (.cell _ 35 #[.int .i64 kb, .slice A2 r2.length c2] (0, 0) _ rfl (blk_put (blk_put HK5.out 0 (.int .i64 kb) rfl) 1 (.slice A2 r2.length c2) rfl) Try.underlying35 rfl (by kernel_rfl) (.tmp (.tmp (.tmp .nil))))) rfl ?_
    refine ⟨_, _, rfl, ?_, ?_, ?_⟩
    · have h2 := Kd.R_kept (Kd.R_below HO3.out hb35) (hkp (.int .i64 kb) (.slice A2 r2.length c2)) (fun k hk he => by have := hk.1; omega)
      refine Kd.R_reok rfl h2 (fun k hk he => ?_)
      have h3 := (h2.1 k hk).2.2
      have h4 := h7 k he.symm
      simp at h4
      omega
    · have h2 := Kd.R_kept (Kd.R_reok (ok := fun k => w.heap.size < k ∧ W3.heap.size ≤ k) rfl (Kd.R_lower HO5.out (by simpa using hsz3)) (fun k hk => by
        have h4 := h7 k hk
        have h5 := blk_lt HBK3.out
        simp at h4
        exact ⟨by omega, h4⟩)) (hkp (.int .i64 kb) (.slice A2 r2.length c2)) (fun k hk he => by have := hk.1; omega)
      refine Kd.R_reok rfl h2 (fun k hk he => ?_)
      have h3 := (h2.1 k hk).2
      have h4 := ((Kd.R_below HO3.out hb35).1 k he.symm).2.2
      omega
    · exact below_set (below_set HB5w.out (Nat.le_refl _)) (Nat.le_refl _)
  · obtain ⟨W3, hW3⟩ : ∃ W3, W3 = (w2.setCell ⟨W1.heap.size, 0, none⟩ (.int .i64 kb)).setCell ⟨W1.heap.size, 1, none⟩ (.slice A2 r2.length c2) := ⟨_, rfl⟩
    have hlt1 : w.heap.size < W1.heap.size := blk_lt HBKd.out
    have hlt2 := hlt1
    have HX3 : Aside0 (W3.heap[W1.heap.size]? = some (.cells #[.int .i64 kb, .slice A2 r2.length c2] 35 (0, 0))) := ⟨by rw [hW3]; exact blk_put (blk_put HB9.out 0 (.int .i64 kb) rfl) 1 (.slice A2 r2.length c2) rfl⟩
    have HBK3 : Aside0 (W3.heap[w.heap.size]? = some (.cells #[.int .i64 0, .slice none 0 0] 35 (0, 0))) := ⟨by rw [hW3]; exact blk_far (p := ⟨W1.heap.size, 1, none⟩) (blk_far (p := ⟨W1.heap.size, 0, none⟩) (blk_below (blk_drew (blk_alloc HBKd.out _)) HB2.out) (Nat.ne_of_lt hlt1) (.int .i64 kb)) (Nat.ne_of_lt hlt1) (.slice A2 r2.length c2)⟩
    have HB3 : Aside0 (Below w.heap.size w W3) := ⟨by rw [hW3]; exact below_set (below_set HB2w.out (Nat.le_of_lt hlt1)) (Nat.le_of_lt hlt1)⟩
    have HO3 : Aside0 (Kd.R (Kd.int .u8) 5 W3 w.heap.size (fun k => w.heap.size < k ∧ k ≠ W1.heap.size ∧ k < W3.heap.size) (.slice A2 r2.length c2) r2) := ⟨by
      have hb := Kd.R_base HO2.out
      have hl := Kd.R_lt HO2.out
      have hk0 : Kept w2 W3 (fun k => k = W1.heap.size) := by
        rw [hW3]
        exact Kept.setCell (p := ⟨W1.heap.size, 1, none⟩) (Kept.setCell (p := ⟨W1.heap.size, 0, none⟩) (Kept.refl w2 (fun k => k = W1.heap.size)) (.inl rfl) _) (.inl rfl) _
      refine Kd.R_kept (Kd.R_reok rfl (Kd.R_lower HO2.out (by have := HBd.out.size; simp; omega)) (fun k hk => ?_)) hk0 (fun k hk => hk.2.1)
      have h1 : W1.heap.size + 1 ≤ k := by simpa using hb k hk
      have h2 := hl k hk
      have h3 := hk0.1
      exact ⟨by omega, by omega, by omega⟩⟩
    rw [← hW3]
    have HNE : Aside0 (w.heap.size < W1.heap.size) := ⟨by (exact hlt1)⟩
    clear hW3
    have x0 : W3.cell? ⟨W1.heap.size, 0, none⟩ = some (.int .i64 kb) := (blk_cell HX3.out 0).trans rfl
    have x1 : W3.cell? ⟨W1.heap.size, 1, none⟩ = some (.slice A2 r2.length c2) := (blk_cell HX3.out 1).trans rfl
    have nx0 := World.new_ne W3 _ x0
    have nx1 := World.new_ne W3 _ x1
    have f0 := blk_frozen HBK3.out 0
    have f1 := blk_frozen HBK3.out 1
    have s0 : W3.cell? ⟨w.heap.size, 0, none⟩ = some (.int .i64 0) := (blk_cell HBK3.out 0).trans rfl
    have s1 : W3.cell? ⟨w.heap.size, 1, none⟩ = some (.slice none 0 0) := (blk_cell HBK3.out 1).trans rfl
    have fd0 := blk_frozen (blk_drew HBK3.out) 0
    have fd1 := blk_frozen (blk_drew HBK3.out) 1
    clear e1 e2 e3 hlt1 hlt2
    go_region_held3 (fun w' => w'.cell? ⟨W1.heap.size, 0, none⟩ = some (.int .i64 kb) ∧ w'.cell? ⟨W1.heap.size, 1, none⟩ = some (.slice A2 r2.length c2)) (first | go_keep | exact ⟨(blk_cell (blk_far (p := ⟨w.heap.size, 1, none⟩) (blk_far (p := ⟨w.heap.size, 0, none⟩) HX5.out (Nat.ne_of_gt HNE.out) _) (Nat.ne_of_gt HNE.out) _) 0).trans rfl, (blk_cell (blk_far (p := ⟨w.heap.size, 1, none⟩) (blk_far (p := ⟨w.heap.size, 0, none⟩) HX5.out (Nat.ne_of_gt HNE.out) _) (Nat.ne_of_gt HNE.out) _) 1).trans rfl⟩) ((go_at_call 33; refine (slices_Clone_byte_byte.calls A6 c6 r3 r3 _ ?h1 HE6.out F6.out).mono ?_; (case h1 => exact Kd.C_below H6.out (by repeat (first | exact HB3.out | apply below_drew))); rintro e w5 ⟨v5, rfl, ho5, hb5⟩; (have HO5 := Aside0.mk ho5); (have HB5 := Aside0.mk hb5); (have HB5w : Aside0 (Below w.heap.size w w5) := ⟨below_step (by repeat (first | exact HB3.out | apply below_drew)) hb5⟩); (obtain ⟨A7, c7, rfl⟩ := Kd.R_slice ho5); (have hx5 : w5.heap[W1.heap.size]? = some (.cells #[.int .i64 kb, .slice A2 r2.length c2] 35 (0, 0)) := blk_below (by with_reducible (exact blk_drew HX3.out)) hb5); (have y0 : w5.cell? ⟨W1.heap.size, 0, none⟩ = some (.int .i64 kb) := (blk_cell hx5 0).trans rfl); (have y1 : w5.cell? ⟨W1.heap.size, 1, none⟩ = some (.slice A2 r2.length c2) := (blk_cell hx5 1).trans rfl); (try (with_reducible have hk9 : Below W3.drew.heap.size W3.drew w5 := hb5; (have hb9 : w5.heap[w.heap.size]? = some (.cells #[.int .i64 0, .slice none 0 0] 35 (0, 0)) := blk_below (blk_drew HBK3.out) hk9); have HK5 := Aside0.mk hb9; have u0' : w5.cell? ⟨w.heap.size, 0, none⟩ = some (.int .i64 0) := (blk_cell hb9 0).trans rfl; have u1' : w5.cell? ⟨w.heap.size, 1, none⟩ = some (.slice none 0 0) := (blk_cell hb9 1).trans rfl; have v0'' := blk_frozen hb9 0; have v1'' := blk_frozen hb9 1; clear hb9 hk9)); (have HX5 := Aside0.mk hx5); clear hx5 ho5 hb5))
    go_wp2
    have hkp : ∀ u v, Kept w5 ((w5.setCell ⟨w.heap.size, 0, none⟩ u).setCell ⟨w.heap.size, 1, none⟩ v) (fun k => k = w.heap.size) := fun u v => Kept.setCell (p := ⟨w.heap.size, 1, none⟩) (Kept.setCell (p := ⟨w.heap.size, 0, none⟩) (Kept.refl w5 (fun k => k = w.heap.size)) (.inl rfl) _) (.inl rfl) _
    have hb35 : Below W3.heap.size W3 w5 := below_step (below_drew (Below.refl _ _)) HB5.out
    have h7 := Kd.R_base HO5.out
    have hsz3 := HB3.out.size
    refine bodyPost_ret (results_list (rs := [.cell 4 35, .tmp 5, .tmp 6, .tmp 7]) rfl (by simp) (.cell _ 35 #[.int .i64 kb, .slice A2 r2.length c2] (0, 0) _ rfl (blk_put (blk_put HK5.out 0 (.int .i64 kb) rfl) 1 (.slice A2 r2.length c2) rfl) Try.underlying35 rfl (by kernel_rfl) (.tmp (.tmp (.tmp .nil))))) rfl ?_
    refine ⟨_, _, rfl, ?_, ?_, ?_⟩
    · have h2 := Kd.R_kept (Kd.R_below HO3.out hb35) (hkp (.int .i64 kb) (.slice A2 r2.length c2)) (fun k hk he => by have := hk.1; omega)
      refine Kd.R_reok rfl h2 (fun k hk he => ?_)
      have h3 := (h2.1 k hk).2.2
      have h4 := h7 k he.symm
      simp at h4
      omega
    · have h2 := Kd.R_kept (Kd.R_reok (ok := fun k => w.heap.size < k ∧ W3.heap.size ≤ k) rfl (Kd.R_lower HO5.out (by simpa using hsz3)) (fun k hk => by
        have h4 := h7 k hk
        have h5 := blk_lt HBK3.out
        simp at h4
        exact ⟨by omega, h4⟩)) (hkp (.int .i64 kb) (.slice A2 r2.length c2)) (fun k hk he => by have := hk.1; omega)
      refine Kd.R_reok rfl h2 (fun k hk he => ?_)
      have h3 := (h2.1 k hk).2
      have h4 := ((Kd.R_below HO3.out hb35).1 k he.symm).2.2
      omega
    · exact below_set (below_set HB5w.out (Nat.le_refl _)) (Nat.le_refl _)

/-! ### entry_Payload: function 56 -/
def entry_Payload.f (a0_0 : Int) (l0_1 : List Int) : Option (List Int × Int) := (entry_known.f a0_0).bind fun t360 => (if t360 = true then (if (l0_1.length : Int) > 1024 then (some (([] : List Int), 3)) else ((some (([(a0_0) % 256] : List Int) : List Int)).bind fun y361 => (if y361.length + l0_1.length < 140737488355328 then (some ((y361 ++ l0_1), 0)) else (none)))) else (some (([] : List Int), 23)))
set_option maxHeartbeats 8000000 in
set_option maxRecDepth 100000 in
theorem entry_Payload.calls (a0_0 : Int) (A0_1 : Option Addr) (c0_1 : Nat) (l0_1 : List Int) (r1 : List Int) (r2 : Int) (w : World) (hr0_1 : Kd.C (Kd.int .u8) w A0_1 l0_1.length l0_1) (hc0_1 : l0_1.length ≤ c0_1) (h : entry_Payload.f a0_0 l0_1 = some (r1, r2)) :
    Calls Try.prog 56 #[.agg #[.int .i64 a0_0, .slice A0_1 l0_1.length c0_1]] w fun e w' => ∃ v0_ : Value, e = .returned (.tuple #[v0_, .int .i64 r2]) ∧ Kd.R (Kd.int .u8) 5 w' w.heap.size (fun _ => True) v0_ r1 ∧ Below w.heap.size w w' := by
  have hu35 := Try.underlying35
  have HR0_1 := Aside0.mk hr0_1
  have HC0_1 := Aside0.mk hc0_1
  clear hr0_1 hc0_1
  have HB := Aside0.mk (Below.refl w.heap.size w)
  have H : ((entry_known.f a0_0).bind fun t360 => (if t360 = true then (if (l0_1.length : Int) > 1024 then (some (([] : List Int), 3)) else ((some (([(a0_0) % 256] : List Int) : List Int)).bind fun y361 => (if y361.length + l0_1.length < 140737488355328 then (some ((y361 ++ l0_1), 0)) else (none)))) else (some (([] : List Int), 23)))) = some (r1, r2) := h
  clear h
  replace H := Option.bind_eq_some_iff.mp H
  obtain ⟨t360, A20, H⟩ := H
  replace H : (if t360 = true then (if (l0_1.length : Int) > 1024 then (some (([] : List Int), 3)) else ((some (([(a0_0) % 256] : List Int) : List Int)).bind fun y361 => (if y361.length + l0_1.length < 140737488355328 then (some ((y361 ++ l0_1), 0)) else (none)))) else (some (([] : List Int), 23))) = some (r1, r2) := H
  have A2 := Aside0.mk A20
  clear A20
  by_cases c3 : t360 = true
  rotate_left
  · replace c3 := Bool.eq_false_iff.mpr c3
    subst c3
    have H1 : (some (([] : List Int), 23)) = some (r1, r2) := by rw [if_neg (show ¬ (false = true) by decide)] at H; exact H
    clear H
    have H := H1
    clear H1
    simp only [Option.some.injEq, Prod.mk.injEq] at H
    obtain ⟨rfl, rfl⟩ := H
    go_enter Try.func56, Try.ntmps56
    go_wp2_with (first | ((with_reducible refine gate_dst (N := 1) rfl ?_); refine box_event ?hg (N := 1) ?hd (cs := #[.int .i64 a0_0, .slice A0_1 l0_1.length c0_1]) (t := 35) ?hr ?_; (case hd => rfl); (case hg => rfl); (case hr => (go_simp; done)); intro gb359 hg w14 hbox hb; have n0_ := Aside0.mk (below_step HB.out hb); have n1_ := Aside0.mk (hbox); have n2_ := Aside0.mk ((by rw [hg]; exact (below_size HB.out) : w.heap.size ≤ gb359)); have n3_ := Aside0.mk ((by rw [hg]; exact (below_size HB.out) : w.heap.size ≤ gb359)); clear HB; have HB := n0_; have BK359 := n1_; have GW359 := n2_; have GE359 := n3_; clear n0_ n1_ n2_ n3_; clear hb hbox hg; have hcz15_0 : w14.cell? ⟨gb359, 0, none⟩ = some (.int .i64 a0_0) := (blk_cell BK359.out 0).trans rfl; have hcz15_1 : w14.cell? ⟨gb359, 1, none⟩ = some (.slice A0_1 l0_1.length c0_1) := (blk_cell BK359.out 1).trans rfl; have hfz15_0 := blk_frozen BK359.out 0; have hfz15_1 := blk_frozen BK359.out 1) | ((with_reducible refine gate_callee (f := 53) rfl ?_); refine goesL_ (some 7) rfl rfl Try.func53 (by kernel_rfl) rfl #[.int .i64 a0_0] rfl (by (try simp only [List.map_toArray, List.map_cons, List.map_nil]); (rfl)) ?_; (with_reducible refine (entry_known.calls a0_0 false _ A2.out).mono ?_); rintro e w' ⟨rfl, ⟨nd, rfl⟩⟩; refine ⟨_, rfl, ?_⟩))
    go_ret2
    exact ⟨_, by (rfl), by (exact Kd.R_nil _ _ _ _ _), by repeat (with_reducible first | exact HB.out | apply pw_below_drewN)⟩

  subst c3
  have H1 : (if (l0_1.length : Int) > 1024 then (some (([] : List Int), 3)) else ((some (([(a0_0) % 256] : List Int) : List Int)).bind fun y361 => (if y361.length + l0_1.length < 140737488355328 then (some ((y361 ++ l0_1), 0)) else (none)))) = some (r1, r2) := by rw [if_pos rfl] at H; exact H
  clear H
  have H := H1
  clear H1
  by_cases c4 : (l0_1.length : Int) > 1024
  · rw [if_pos c4] at H
    have c4b0 : decide (1024 < (l0_1.length : Int)) = true := decide_eq_true c4
    have c4b1 : decide (1024 < l0_1.length) = true := decide_eq_true (by omega)
    clear c4
    simp only [Option.some.injEq, Prod.mk.injEq] at H
    obtain ⟨rfl, rfl⟩ := H
    go_enter Try.func56, Try.ntmps56
    go_wp2_with (first | ((with_reducible refine gate_dst (N := 1) rfl ?_); refine box_event ?hg (N := 1) ?hd (cs := #[.int .i64 a0_0, .slice A0_1 l0_1.length c0_1]) (t := 35) ?hr ?_; (case hd => rfl); (case hg => rfl); (case hr => (go_simp; done)); intro gb359 hg w5 hbox hb; have n0_ := Aside0.mk (below_step HB.out hb); have n1_ := Aside0.mk (hbox); have n2_ := Aside0.mk ((by rw [hg]; exact (below_size HB.out) : w.heap.size ≤ gb359)); have n3_ := Aside0.mk ((by rw [hg]; exact (below_size HB.out) : w.heap.size ≤ gb359)); clear HB; have HB := n0_; have BK359 := n1_; have GW359 := n2_; have GE359 := n3_; clear n0_ n1_ n2_ n3_; clear hb hbox hg; have hcz6_0 : w5.cell? ⟨gb359, 0, none⟩ = some (.int .i64 a0_0) := (blk_cell BK359.out 0).trans rfl; have hcz6_1 : w5.cell? ⟨gb359, 1, none⟩ = some (.slice A0_1 l0_1.length c0_1) := (blk_cell BK359.out 1).trans rfl; have hfz6_0 := blk_frozen BK359.out 0; have hfz6_1 := blk_frozen BK359.out 1) | ((with_reducible refine gate_callee (f := 53) rfl ?_); refine goesL_ (some 7) rfl rfl Try.func53 (by kernel_rfl) rfl #[.int .i64 a0_0] rfl (by (try simp only [List.map_toArray, List.map_cons, List.map_nil]); (rfl)) ?_; (with_reducible refine (entry_known.calls a0_0 true _ A2.out).mono ?_); rintro e w' ⟨rfl, ⟨nd, rfl⟩⟩; refine ⟨_, rfl, ?_⟩))
    go_ret2
    exact ⟨_, by (rfl), by (exact Kd.R_nil _ _ _ _ _), by repeat (with_reducible first | exact HB.out | apply pw_below_drewN)⟩
  rw [if_neg c4] at H
  have c4b0 : decide (1024 < (l0_1.length : Int)) = false := decide_eq_false c4
  have c4b1 : decide (1024 < l0_1.length) = false := decide_eq_false (by omega)
  clear c4
  obtain ⟨y361, hy361⟩ : ∃ y_ : List Int, y_ = (([(a0_0) % 256] : List Int)) := ⟨_, rfl⟩
  replace H : (if y361.length + l0_1.length < 140737488355328 then (some ((y361 ++ l0_1), 0)) else (none)) = some (r1, r2) := by ((have H2_ := (Option.bind_some _ _).symm.trans H; rw [hy361]; with_reducible exact H2_))
  have Ny361 := Aside0.mk hy361
  clear hy361
  by_cases c7 : y361.length + l0_1.length < 140737488355328
  rotate_left
  · rw [if_neg c7] at H
    exact absurd H (by simp)
  rw [if_pos c7] at H
  have LMc7 := Aside0.mk c7
  clear c7
  obtain ⟨y364, hy364⟩ : ∃ y_ : List Int, y_ = (y361 ++ l0_1) := ⟨_, rfl⟩
  replace H : (some (y364, 0)) = some (r1, r2) := by (rw [hy364]; with_reducible exact H)
  have Ny364 := Aside0.mk hy364
  clear hy364
  simp only [Option.some.injEq, Prod.mk.injEq] at H
  obtain ⟨rfl, rfl⟩ := H
  go_enter Try.func56, Try.ntmps56
  go_wp2_with (first | ((with_reducible refine gate_dst (N := 1) rfl ?_); refine box_event ?hg (N := 1) ?hd (cs := #[.int .i64 a0_0, .slice A0_1 l0_1.length c0_1]) (t := 35) ?hr ?_; (case hd => rfl); (case hg => rfl); (case hr => (go_simp; done)); intro gb359 hg w8 hbox hb; have n0_ := Aside0.mk (below_step HB.out hb); have n1_ := Aside0.mk (hbox); have n2_ := Aside0.mk ((by rw [hg]; exact (below_size HB.out) : w.heap.size ≤ gb359)); have n3_ := Aside0.mk ((by rw [hg]; exact (below_size HB.out) : w.heap.size ≤ gb359)); clear HB; have HB := n0_; have BK359 := n1_; have GW359 := n2_; have GE359 := n3_; clear n0_ n1_ n2_ n3_; clear hb hbox hg; have hcz9_0 : w8.cell? ⟨gb359, 0, none⟩ = some (.int .i64 a0_0) := (blk_cell BK359.out 0).trans rfl; have hcz9_1 : w8.cell? ⟨gb359, 1, none⟩ = some (.slice A0_1 l0_1.length c0_1) := (blk_cell BK359.out 1).trans rfl; have hfz9_0 := blk_frozen BK359.out 0; have hfz9_1 := blk_frozen BK359.out 1) | ((with_reducible refine gate_callee (f := 53) rfl ?_); refine goesL_ (some 7) rfl rfl Try.func53 (by kernel_rfl) rfl #[.int .i64 a0_0] rfl (by (try simp only [List.map_toArray, List.map_cons, List.map_nil]); (rfl)) ?_; (with_reducible refine (entry_known.calls a0_0 true _ A2.out).mono ?_); rintro e w' ⟨rfl, ⟨nd, rfl⟩⟩; refine ⟨_, rfl, ?_⟩) | ((with_reducible refine gate_dst (N := 17) rfl ?_); refine Kd.R_lit (Kd.int .u8) _ 5 ?hg (N := 17) ?hd (xs := ([(a0_0) % 256] : List Int)) (inner := [.int .u8 ((a0_0) % 256)]) (ok := fun _ => True) (okp := fun _ => True) ?hr ?hp (fun _ hk => hk) trivial (Below.refl _ _) (Nat.le_refl _) (by simp) ?_; (case hd => rfl); (case hg => rfl); (case hr => (go_simp; done)); (case hp => exact (Reps.one (show Kd.M (Kd.int .u8) _ _ _ ((a0_0) % 256) [.int .u8 ((a0_0) % 256)] from rfl) (Reps.none _ _))); intro v362 w10 ho11 hb hg_ hnew_; clear hg_ hnew_; (rw [← Ny361.out] at ho11); have n0_ := Aside0.mk (Kd.R_lower ho11 (below_size (by repeat (with_reducible first | exact HB.out | apply pw_below_drewN)))); have n1_ := Aside0.mk (blk_below (g := gb359) (o := .cells #[.int .i64 a0_0, .slice A0_1 l0_1.length c0_1] 35 (0, 0)) (by (with_reducible repeat (refine blk_drewN ?_ _)); exact BK359.out) hb); have n2_ := Aside0.mk (below_step (by repeat (with_reducible first | exact HB.out | apply pw_below_drewN)) hb); clear BK359; clear HB; have HO363 := n0_; have BK359 := n1_; have HB := n2_; clear n0_ n1_ n2_; clear hb ho11; have hcz12_0 : w10.cell? ⟨gb359, 0, none⟩ = some (.int .i64 a0_0) := (blk_cell BK359.out 0).trans rfl; have hcz12_1 : w10.cell? ⟨gb359, 1, none⟩ = some (.slice A0_1 l0_1.length c0_1) := (blk_cell BK359.out 1).trans rfl; have hfz12_0 := blk_frozen BK359.out 0; have hfz12_1 := blk_frozen BK359.out 1) | ((with_reducible refine gate_builtin (b := .append) (xs := #[.tmp 17, .tmp 19]) rfl ?_); at_builtin; refine Kd.R_append_rows (Kd.int .u8) (w0 := w) w.heap.size rfl (.tmp 17) (.tmp 19) 22 5 (.int .u8 0) 1 rfl Try.underlying22 info5 rfl (by decide) (by omega) v362 y361 l0_1 _ _ _ (fun _ => True) (fun _ => False) rfl rfl ?aO ?aR (fun _ _ h => h) (fun _ h => h.elim) ?aF ?aB ?aS ?aL ?_; (case aR => exact Kd.C_below HR0_1.out HB.out); (case aB => exact HB.out); (case aF => exact (fun _ _ => trivial)); (case aO => exact (by exact HO363.out)); (case aS => exact (below_size HB.out)); (case aL => have := LMc7.out; omega); intro v365 w13 ho hb hg hat; rw [← Ny364.out] at ho; have n0_ := Aside0.mk (blk_grown (g := gb359) (o := .cells #[.int .i64 a0_0, .slice A0_1 l0_1.length c0_1] 35 (0, 0)) (by exact BK359.out) hg (Kd.R_ne HO363.out BK359.out (by decide))); have n1_ := Aside0.mk (hb); have n2_ := Aside0.mk (ho); clear BK359; clear HB; clear HO363; have BK359 := n0_; have HB := n1_; have HO366 := n2_; clear n0_ n1_ n2_; clear ho hb hg hat))
  go_ret2
  exact ⟨_, by (rfl), by exact HO366.out, HB.out⟩
end Go.Proofs.Ytogjnipojakfjaa.PJd
