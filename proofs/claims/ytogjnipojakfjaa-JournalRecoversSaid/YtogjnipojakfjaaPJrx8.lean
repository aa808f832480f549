-- SLIM: a printed text of which the unused ways are cut off
-- PRINTED by print.py (a twelfth state) out of the translation. Not trusted: Lean checks it.
import Derived.Test.YtogjnipojakfjaaPJrx0
import Derived.Test.YtogjnipojakfjaaPJrx7
namespace Go.Proofs.Ytogjnipojakfjaa.PJr
open Go.RowKit Go.Proofs.YtogjnipojakfjaaW.PrintWords Go.Proofs.YtogjnipojakfjaaW.PrintLast Go.Proofs.YtogjnipojakfjaaW.PrintMore
attribute [local go_sem] max2_int min2_int max_two min_two max_three min_three max_four min_four   -- for this text's walks alone
set_option linter.unusedVariables false
set_option linter.unusedSimpArgs false

/-! ### notaryref02_Primes: function 85 -/
mutual
def notaryref02_Primes.l0 : Nat → Int → List Int → Int → Option (List Int)
  | 0, _, _, _ => none
  | k + 1, x0, x3, x4 => if x4 < 600 then (if (x3.length : Int) < x0 then (notaryref02_Primes.j1 k x0 x3 x4 (decide ((x3.length : Int) < 100))) else (notaryref02_Primes.j1 k x0 x3 x4 false)) else (notaryref02_Primes.j1 k x0 x3 x4 false)
def notaryref02_Primes.j1 : Nat → Int → List Int → Int → Bool → Option (List Int)
  | 0, _, _, _, _ => none
  | k + 1, x0, x3, x4, x18 => if x18 = true then ((notaryref02_Prime.f k x4).bind fun t260 => (if t260 = true then (if x3.length < 17592186044416 then (notaryref02_Primes.l0 k x0 (x3 ++ [x4]) (wrap64 (x4 + 1))) else (none)) else (notaryref02_Primes.l0 k x0 x3 (wrap64 (x4 + 1))))) else (some x3)
end
def notaryref02_Primes.f (k : Nat) (a0 : Int) : Option (List Int) := notaryref02_Primes.l0 k a0 ([] : List Int) 2
theorem notaryref02_Primes.mono_l : ∀ k, (∀ y0 y1 y2, LeO (notaryref02_Primes.l0 k y0 y1 y2) (notaryref02_Primes.l0 (k + 1) y0 y1 y2)) ∧ (∀ y0 y1 y2 y3, LeO (notaryref02_Primes.j1 k y0 y1 y2 y3) (notaryref02_Primes.j1 (k + 1) y0 y1 y2 y3))
  | 0 => ⟨fun _ _ _ r h => by simp [notaryref02_Primes.l0] at h, fun _ _ _ _ r h => by simp [notaryref02_Primes.j1] at h⟩
  | k + 1 => by
    obtain ⟨ih0, ih1⟩ := notaryref02_Primes.mono_l k
    refine ⟨?_, ?_⟩
    · intro y0 y1 y2
      unfold notaryref02_Primes.l0
      repeat' first | (with_reducible exact ih1 _ _ _ _) | (with_reducible refine LeO.ite ?_ ?_)
    · intro y0 y1 y2 y3
      unfold notaryref02_Primes.j1
      repeat' first | (with_reducible exact ih0 _ _ _) | (with_reducible exact notaryref02_Prime.mono _ _) | (with_reducible exact LeO.refl _) | (with_reducible refine LeO.ite ?_ ?_) | (with_reducible refine LeO.bind ?_ (fun _ => ?_))
theorem notaryref02_Primes.mono : ∀ a0 k, LeO (notaryref02_Primes.f k a0) (notaryref02_Primes.f (k + 1) a0) := by
  intro a0 k
  obtain ⟨ih0, ih1⟩ := notaryref02_Primes.mono_l k
  unfold notaryref02_Primes.f
  repeat' first | (with_reducible exact ih0 _ _ _)
set_option maxHeartbeats 8000000 in
set_option maxRecDepth 100000 in
theorem notaryref02_Primes.calls (k : Nat) (a0 : Int) (r : List Int) (w : World) (h : notaryref02_Primes.f k a0 = some r) :
    Calls Try.prog 85 #[.int .i64 a0] w fun e w' => ∃ v0_ : Value, e = .returned (v0_) ∧ Kd.R (Kd.int .i64) 3 w' w.heap.size (fun _ => True) v0_ r ∧ Below w.heap.size w w' := by
  have HB := Aside0.mk (Below.refl w.heap.size w)
  have H : (notaryref02_Primes.l0 k a0 ([] : List Int) 2) = some r := h
  clear h
  obtain ⟨y257, hy257⟩ : ∃ y_ : List Int, y_ = ([] : List Int) := ⟨_, rfl⟩
  replace H : (notaryref02_Primes.l0 k a0 y257 2) = some r := by (rw [hy257]; with_reducible exact H)
  have Ny257 := Aside0.mk hy257
  clear hy257
  have H' := Aside0.mk H
  clear H
  go_enter Try.func85, Try.ntmps85
  go_wp2_with ((((with_reducible refine gate_dst (N := 5) rfl ?_); (try (refine gate_guard (by rfl) ?_; dsimp only)); refine Kd.R_lit (Kd.int .i64) _ 3 ?hg (N := 5) ?hd (xs := ([] : List Int)) (inner := []) (ok := fun _ => True) (okp := fun _ => True) ?hr ?hp (fun _ hk => hk) trivial (Below.refl _ _) (Nat.le_refl _) (by simp) ?_; (case hd => rfl); (case hg => rfl); (case hr => (go_simp; done)); (case hp => exact (Reps.none _ _)); intro v258 w2 ho3 hb hg_ hnew_; clear hg_ hnew_; (rw [← Ny257.out] at ho3); have n0_ := Aside0.mk (Kd.R_lower ho3 (below_size HB.out)); have n1_ := Aside0.mk (below_step HB.out hb); clear HB; have HO259 := n0_; have HB := n1_; clear n0_ n1_; clear hb ho3)))
  go_loopg [3, 4] k (fun kq v3 v4 w' => ∃ (x3_1 : List Int) (x4_1 : Int), v4 = .int .i64 x4_1 ∧ Aside0 (notaryref02_Primes.l0 kq a0 x3_1 x4_1 = some r) ∧ Aside0 (kq ≤ k) ∧ Aside0 (Kd.R (Kd.int .i64) 3 w' w.heap.size (fun _ => True) v3 x3_1) ∧ Aside0 (Below w.heap.size w w'))
  case atStart => exact ⟨(y257), (2), (by (rfl)), H', ⟨Nat.le_refl _⟩, ⟨by exact HO259.out⟩, ⟨HB.out⟩⟩
  clear H'
  obtain ⟨x3_1, x4_1, rfl, HA, HK1, HO_3, HB⟩ := hrel
  rcases gk with _ | k1
  · exact absurd HA.out (by simp [notaryref02_Primes.l0])
  have H := HA.out
  clear HA
  simp only [notaryref02_Primes.l0] at H
  have HC4 := Aside0.mk H
  clear H
  go_upto_region 3 with (fail)
  go_cut [18] (fun v18 wc => ∃ (kq : Nat) (x18_3 : Bool), v18 = .bool x18_3 ∧ Aside0 (notaryref02_Primes.j1 kq a0 x3_1 x4_1 x18_3 = some r) ∧ Aside0 (kq ≤ k1) ∧ Aside0 (Kd.R (Kd.int .i64) 3 wc w.heap.size (fun _ => True) u3 x3_1) ∧ Aside0 (Below w.heap.size w wc))
  case first =>
    have H := HC4.out
    clear HC4
    by_cases c5 : x4_1 < 600
    rotate_left
    · rw [if_neg c5] at H
      have c5b0 : decide (x4_1 < 600) = false := decide_eq_false c5
      clear c5
      (skip)
      have H' := Aside0.mk H
      clear H
      go_wp2
      go_meet
      case rel => exact ⟨_, (false), (by (rfl)), H', ⟨by have := HK1.out; (omega)⟩, ⟨by exact HO_3.out⟩, ⟨HB.out⟩⟩
    rw [if_pos c5] at H
    have c5b0 : decide (x4_1 < 600) = true := decide_eq_true c5
    clear c5
    (skip)
    by_cases c6 : (x3_1.length : Int) < a0
    rotate_left
    · rw [if_neg c6] at H
      have c6b0 : decide ((x3_1.length : Int) < a0) = false := decide_eq_false c6
      clear c6
      have H' := Aside0.mk H
      clear H
      obtain ⟨Ao8, co8, eo8⟩ := Kd.R_slice HO_3.out
      subst eo8
      go_wp2
      go_meet
      case rel => exact ⟨_, (false), (by (rfl)), H', ⟨by have := HK1.out; (omega)⟩, ⟨by exact HO_3.out⟩, ⟨HB.out⟩⟩
    rw [if_pos c6] at H
    have c6b0 : decide ((x3_1.length : Int) < a0) = true := decide_eq_true c6
    clear c6
    have H' := Aside0.mk H
    clear H
    obtain ⟨Ao7, co7, eo7⟩ := Kd.R_slice HO_3.out
    subst eo7
    go_wp2
    go_meet
    case rel => exact ⟨_, (decide ((x3_1.length : Int) < 100)), (by (rfl)), H', ⟨by have := HK1.out; (omega)⟩, ⟨by exact HO_3.out⟩, ⟨HB.out⟩⟩
  clear HC4
  obtain ⟨kq, x18_3, rfl, HA, HJ3, HO_3, HB⟩ := hcut
  rcases kq with _ | kj3
  · exact absurd HA.out (by simp [notaryref02_Primes.j1])
  have H := HA.out
  clear HA
  simp only [notaryref02_Primes.j1] at H
  by_cases c9 : x18_3 = true
  rotate_left
  · replace c9 := Bool.eq_false_iff.mpr c9
    subst c9
    have H1 : (some x3_1) = some r := by rw [if_neg (show ¬ (false = true) by decide)] at H; exact H
    clear H
    have H := H1
    clear H1
    obtain rfl := Option.some.inj H
    go_wp2
    go_ret
    exact ⟨_, by (rfl), by exact HO_3.out, HB.out⟩


  subst c9
  have H1 : ((notaryref02_Prime.f kj3 x4_1).bind fun t260 => (if t260 = true then (if x3_1.length < 17592186044416 then (notaryref02_Primes.l0 kj3 a0 (x3_1 ++ [x4_1]) (wrap64 (x4_1 + 1))) else (none)) else (notaryref02_Primes.l0 kj3 a0 x3_1 (wrap64 (x4_1 + 1))))) = some r := by rw [if_pos rfl] at H; exact H
  clear H
  have H := H1
  clear H1
  replace H := Option.bind_eq_some_iff.mp H
  obtain ⟨t260, A100, H⟩ := H
  replace H : (if t260 = true then (if x3_1.length < 17592186044416 then (notaryref02_Primes.l0 kj3 a0 (x3_1 ++ [x4_1]) (wrap64 (x4_1 + 1))) else (none)) else (notaryref02_Primes.l0 kj3 a0 x3_1 (wrap64 (x4_1 + 1)))) = some r := H
  have A10 := Aside0.mk A100
  clear A100
  by_cases c11 : t260 = true
  rotate_left
  · replace c11 := Bool.eq_false_iff.mpr c11
    subst c11
    have H1 : (notaryref02_Primes.l0 kj3 a0 x3_1 (wrap64 (x4_1 + 1))) = some r := by rw [if_neg (show ¬ (false = true) by decide)] at H; exact H
    clear H
    have H := H1
    clear H1
    have H' := Aside0.mk H
    clear H
    go_wp2_with ((((with_reducible refine gate_callee (f := 96) rfl ?_); refine goesL_ (some 22) rfl rfl Try.func96 (by kernel_rfl) rfl #[.int .i64 x4_1] rfl (by (try simp only [List.map_toArray, List.map_cons, List.map_nil]); (rfl)) ?_; (with_reducible refine (notaryref02_Prime.calls kj3 x4_1 false _ A10.out).mono ?_); rintro e w' ⟨rfl, ⟨nd, rfl⟩⟩; refine ⟨_, rfl, ?_⟩)))
    go_roundg kj3
    case measure => have := HK1.out; have := HJ3.out; omega
    case rel => exact ⟨(x3_1), (wrap64 (x4_1 + 1)), (by (rfl)), H', ⟨by have := HK1.out; have := HJ3.out; omega⟩, ⟨by (with_reducible repeat (apply Kd.R_drewN)); exact HO_3.out⟩, ⟨by repeat (with_reducible first | exact HB.out | apply pw_below_drewN)⟩⟩
  subst c11
  have H1 : (if x3_1.length < 17592186044416 then (notaryref02_Primes.l0 kj3 a0 (x3_1 ++ [x4_1]) (wrap64 (x4_1 + 1))) else (none)) = some r := by rw [if_pos rfl] at H; exact H
  clear H
  have H := H1
  clear H1
  by_cases c12 : x3_1.length < 17592186044416
  rotate_left
  · rw [if_neg c12] at H
    exact absurd H (by simp)
  rw [if_pos c12] at H
  have LMc12 := Aside0.mk c12
  clear c12
  obtain ⟨y261, hy261⟩ : ∃ y_ : List Int, y_ = (x3_1 ++ [x4_1]) := ⟨_, rfl⟩
  replace H : (notaryref02_Primes.l0 kj3 a0 y261 (wrap64 (x4_1 + 1))) = some r := by (rw [hy261]; with_reducible exact H)
  have Ny261 := Aside0.mk hy261
  clear hy261
  have H' := Aside0.mk H
  clear H
  go_wp2_with (first | ((with_reducible refine gate_callee (f := 96) rfl ?_); refine goesL_ (some 22) rfl rfl Try.func96 (by kernel_rfl) rfl #[.int .i64 x4_1] rfl (by (try simp only [List.map_toArray, List.map_cons, List.map_nil]); (rfl)) ?_; (with_reducible refine (notaryref02_Prime.calls kj3 x4_1 true _ A10.out).mono ?_); rintro e w' ⟨rfl, ⟨nd, rfl⟩⟩; refine ⟨_, rfl, ?_⟩) | ((with_reducible refine gate_builtin (b := .append) (xs := #[.tmp 23, .tmp 25]) rfl ?_); (try (refine gate_guard (by rfl) ?_; dsimp only)); at_builtin; refine Kd.R_append (Kd.int .i64) (w0 := w) w.heap.size rfl (.tmp 23) (.tmp 25) 116 3 (.int .i64 0) 8 rfl Try.underlying116 info3 rfl (by decide) (by omega) u3 x3_1 x4_1 [.int .i64 x4_1] (fun _ => True) (fun _ => False) rfl rfl ?aP (fun _ hk => hk.elim) ?aF ?aO ?aB ?aS ?aL ?_; (case aP => exact rfl); (case aB => exact (by repeat (with_reducible first | exact HB.out | apply pw_below_drewN))); (case aF => exact (fun _ _ => trivial)); (case aO => exact (by (with_reducible repeat (apply Kd.R_drewN)); exact HO_3.out)); (case aS => exact (below_size (by repeat (with_reducible first | exact HB.out | apply pw_below_drewN)))); (case aL => have := LMc12.out; omega); intro v262 w13 ho hb hg hat; rw [← Ny261.out] at ho; have n0_ := Aside0.mk (hb); have n1_ := Aside0.mk (ho); clear HB; clear HO_3; have HB := n0_; have HO263 := n1_; clear n0_ n1_; clear ho hb hg hat))
  go_roundg kj3
  case measure => have := HK1.out; have := HJ3.out; omega
  case rel => exact ⟨(y261), (wrap64 (x4_1 + 1)), (by (rfl)), H', ⟨by have := HK1.out; have := HJ3.out; omega⟩, ⟨by exact HO263.out⟩, ⟨HB.out⟩⟩/-! ### notaryref02_Shifted: function 97 -/
def notaryref02_Shifted.f (a0 : Int) (a1 : Int) : Option (List Int) := if 20 ≤ 35184372088832 then ((some (List.replicate 20 0 : List Int)).bind fun y264 => (if 0 ≤ a1 then (if a1 < (y264.length : Int) then (if 0 ≤ (wrap64 (a1 + 1)) then (if (wrap64 (a1 + 1)) < (y264.length : Int) then (some ((y264.set (a1 : Int).toNat (Int.tmod a0 65536)).set ((wrap64 (a1 + 1)) : Int).toNat (IntKind.u64.wrap (Int.tdiv a0 65536)))) else (none)) else (none)) else (none)) else (none))) else (none)
set_option maxHeartbeats 8000000 in
set_option maxRecDepth 100000 in
theorem notaryref02_Shifted.calls (a0 : Int) (a1 : Int) (r : List Int) (w : World) (h : notaryref02_Shifted.f a0 a1 = some r) :
    Calls Try.prog 97 #[.int .u64 a0, .int .i64 a1] w fun e w' => ∃ v0_ : Value, e = .returned (v0_) ∧ Kd.R (Kd.int .u64) 92 w' w.heap.size (fun _ => True) v0_ r ∧ Below w.heap.size w w' := by
  have HB := Aside0.mk (Below.refl w.heap.size w)
  have H : (if 20 ≤ 35184372088832 then ((some (List.replicate 20 0 : List Int)).bind fun y264 => (if 0 ≤ a1 then (if a1 < (y264.length : Int) then (if 0 ≤ (wrap64 (a1 + 1)) then (if (wrap64 (a1 + 1)) < (y264.length : Int) then (some ((y264.set (a1 : Int).toNat (Int.tmod a0 65536)).set ((wrap64 (a1 + 1)) : Int).toNat (IntKind.u64.wrap (Int.tdiv a0 65536)))) else (none)) else (none)) else (none)) else (none))) else (none)) = some r := h
  clear h
  by_cases c3 : 20 ≤ 35184372088832
  rotate_left
  · rw [if_neg c3] at H
    exact absurd H (by simp)


  rw [if_pos c3] at H
  have c3b0 := eq_true c3
  have c3b1 : decide (20 ≤ 35184372088832) = true := decide_eq_true c3
  clear c3
  obtain ⟨y264, hy264⟩ : ∃ y_ : List Int, y_ = (List.replicate 20 0) := ⟨_, rfl⟩
  replace H : (if 0 ≤ a1 then (if a1 < (y264.length : Int) then (if 0 ≤ (wrap64 (a1 + 1)) then (if (wrap64 (a1 + 1)) < (y264.length : Int) then (some ((y264.set (a1 : Int).toNat (Int.tmod a0 65536)).set ((wrap64 (a1 + 1)) : Int).toNat (IntKind.u64.wrap (Int.tdiv a0 65536)))) else (none)) else (none)) else (none)) else (none)) = some r := by ((have H2_ := (Option.bind_some _ _).symm.trans H; rw [hy264]; with_reducible exact H2_))
  have Ny264 := Aside0.mk hy264
  clear hy264
  by_cases c4 : 0 ≤ a1
  rotate_left
  · rw [if_neg c4] at H
    exact absurd H (by simp)
  rw [if_pos c4] at H
  have c4b0 : decide (0 ≤ a1) = true := decide_eq_true c4
  clear c4
  by_cases c5 : a1 < (y264.length : Int)
  rotate_left
  · rw [if_neg c5] at H
    exact absurd H (by simp)
  rw [if_pos c5] at H
  have c5b0 : decide (a1 < (y264.length : Int)) = true := decide_eq_true c5
  clear c5
  obtain ⟨y267, hy267⟩ : ∃ y_ : List Int, y_ = (y264.set (a1 : Int).toNat (Int.tmod a0 65536)) := ⟨_, rfl⟩
  replace H : (if 0 ≤ (wrap64 (a1 + 1)) then (if (wrap64 (a1 + 1)) < (y264.length : Int) then (some (y267.set ((wrap64 (a1 + 1)) : Int).toNat (IntKind.u64.wrap (Int.tdiv a0 65536)))) else (none)) else (none)) = some r := by (rw [hy267]; with_reducible exact H)
  have Ny267 := Aside0.mk hy267
  clear hy267
  obtain ⟨ji7, hji7⟩ : ∃ j_ : Int, (wrap64 (a1 + 1)) = j_ := ⟨_, rfl⟩
  replace H : (if 0 ≤ (ji7) then (if (ji7) < (y264.length : Int) then (some (y267.set ((ji7) : Int).toNat (IntKind.u64.wrap (Int.tdiv a0 65536)))) else (none)) else (none)) = some r := by (rw [hji7] at H; exact H)
  have hji7w : (IntKind.i64.wrap (a1 + 1)) = ji7 := (i64_w _).trans hji7
  by_cases c8 : 0 ≤ (ji7)
  rotate_left
  · rw [if_neg c8] at H
    exact absurd H (by simp)
  rw [if_pos c8] at H
  have c8b0 : decide (0 ≤ (ji7)) = true := decide_eq_true c8
  clear c8
  by_cases c9 : (ji7) < (y264.length : Int)
  rotate_left
  · rw [if_neg c9] at H
    exact absurd H (by simp)
  rw [if_pos c9] at H
  have c9b0 : decide ((ji7) < (y264.length : Int)) = true := decide_eq_true c9
  clear c9
  obtain ⟨y268, hy268⟩ : ∃ y_ : List Int, y_ = (y267.set ((ji7) : Int).toNat (IntKind.u64.wrap (Int.tdiv a0 65536))) := ⟨_, rfl⟩
  replace H : (some y268) = some r := by (rw [hy268]; with_reducible exact H)
  have Ny268 := Aside0.mk hy268
  clear hy268
  obtain rfl := Option.some.inj H
  go_enter Try.func97, Try.ntmps97
  go_wp2_with (first | ((with_reducible refine gate_dst (N := 6) rfl ?_); refine Kd.R_make (Kd.int .u64) _ 92 rfl (N := 6) rfl 129 _ _ rfl 20 rfl rfl Try.underlying129 (.int .u64 0) 8 info92 rfl (by decide) (by omega) 0 (ok := fun _ => True) (okp := fun _ => True) rfl (fun _ hk => hk) trivial (by omega) (by omega) (Below.refl _ _) (Nat.le_refl _) ?_; intro v265 w11 ho12 hb hg_ hnew_; clear hg_ hnew_; (simp only [Int.reduceToNat] at ho12; rw [← Ny264.out] at ho12); have n0_ := Aside0.mk (Kd.R_lower ho12 (below_size HB.out)); have n1_ := Aside0.mk (below_step HB.out hb); clear HB; have HO266 := n0_; have HB := n1_; clear n0_ n1_; clear hb ho12; have p6 : 0 ≤ (a1 : Int) := of_decide_eq_true (by (with_reducible assumption)); have q6 : (a1 : Int) < ((y264.length : Int) : Int) := of_decide_eq_true (by (with_reducible assumption)); obtain ⟨go6, co6, eo6, gb6, gl6, cl6, HG6⟩ := Kd.R_form HO266.out (by omega); (cases eo6); have GB6 := Aside0.mk gb6; have GG6 := Aside0.mk HG6; clear gb6 gl6 HG6; obtain ⟨hx6_0, hf6_0⟩ := Kd.R_celln 0 HO266.out (a1 : Int) p6 q6; replace p6 := eq_true p6; replace q6 := eq_true q6; obtain ⟨hy13_, hz13_⟩ := Kd.R_celln 0 HO266.out (a1 : Int) (of_decide_eq_true (by (with_reducible assumption))) (of_decide_eq_true (by (with_reducible assumption))); have HP13 := Kd.R_putg HO266.out (a1 : Int) (Int.tmod a0 65536)) | ((with_reducible refine gate_store (t := 92) (p := 11) rfl ?_); refine store_event (t := 92) (p := 11) (v := ?vo_w14) (w1 := (w11.setCell ⟨go6, (a1 : Int).toNat, none⟩ (.int .u64 (Int.tmod a0 65536)))) ?hg ?ho ?hn ?hr ?_; (case ho => rfl); (case hg => rfl); (case hn => rfl); (case hr => (go_simp; done)); intro w14 hw; have hg : w11.grownBy w14 (some go6) := (by rw [hw]; exact HP13.2); have hp_ : Kd.R (Kd.int .u64) 92 w14 w.heap.size (fun _ => True) (.slice (some ⟨go6, 0, none⟩) y264.length co6) y267 := (by rw [hw, Ny267.out]; exact HP13.1); clear HP13; have n0_ := Aside0.mk (hp_); have n1_ := Aside0.mk ((by rw [hw]; exact below_set (HB.out) GB6.out : Below w.heap.size w w14)); clear HO266; clear HB; have HO266 := n0_; have HB := n1_; clear n0_ n1_; clear hg hw hp_; have p10 : 0 ≤ ((ji7) : Int) := of_decide_eq_true (by (with_reducible assumption)); have q10 : ((ji7) : Int) < ((y264.length : Int) : Int) := of_decide_eq_true (by (with_reducible assumption)); obtain ⟨hx10_0, hf10_0⟩ := Kd.R_celln 0 HO266.out ((ji7) : Int) p10 q10; replace p10 := eq_true p10; replace q10 := eq_true q10; obtain ⟨hy15_, hz15_⟩ := Kd.R_celln 0 HO266.out ((ji7) : Int) (of_decide_eq_true (by (with_reducible assumption))) (of_decide_eq_true (by (with_reducible assumption))); have HP15 := Kd.R_putg HO266.out ((ji7) : Int) (IntKind.u64.wrap (Int.tdiv a0 65536))) | ((with_reducible refine gate_store (t := 92) (p := 17) rfl ?_); refine store_event (t := 92) (p := 17) (v := ?vo_w16) (w1 := (w14.setCell ⟨go6, ((ji7) : Int).toNat, none⟩ (.int .u64 (IntKind.u64.wrap (Int.tdiv a0 65536))))) ?hg ?ho ?hn ?hr ?_; (case ho => rfl); (case hg => rfl); (case hn => rfl); (case hr => (go_simp; done)); intro w16 hw; have hg : w14.grownBy w16 (some go6) := (by rw [hw]; exact HP15.2); have hp_ : Kd.R (Kd.int .u64) 92 w16 w.heap.size (fun _ => True) (.slice (some ⟨go6, 0, none⟩) y264.length co6) y268 := (by rw [hw, Ny268.out]; exact HP15.1); clear HP15; have n0_ := Aside0.mk (hp_); have n1_ := Aside0.mk ((by rw [hw]; exact below_set (HB.out) GB6.out : Below w.heap.size w w16)); clear HO266; clear HB; have HO266 := n0_; have HB := n1_; clear n0_ n1_; clear hg hw hp_))
  go_ret
  exact ⟨_, by (rfl), by exact HO266.out, HB.out⟩/-! ### notaryref02_Clip: function 98 -/
def notaryref02_Clip.f (a0 : Int) : Option (Int) := if a0 < 0 then (some 0) else (if a0 > 65536 then (some 65536) else (some (IntKind.u64.wrap (a0))))
set_option maxHeartbeats 8000000 in
set_option maxRecDepth 100000 in
theorem notaryref02_Clip.calls (a0 : Int) (r : Int) (w : World) (h : notaryref02_Clip.f a0 = some r) :
    Calls Try.prog 98 #[.int .i64 a0] w fun e w' => e = .returned (.int .u64 r) ∧ Drawn0 w w' := by
  have H : (if a0 < 0 then (some 0) else (if a0 > 65536 then (some 65536) else (some (IntKind.u64.wrap (a0))))) = some r := h
  clear h
  by_cases c2 : a0 < 0
  · rw [if_pos c2] at H
    have c2b0 : decide (a0 < 0) = true := decide_eq_true c2
    clear c2
    obtain rfl := Option.some.inj H
    go_enter Try.func98, Try.ntmps98
    go_wp2
    go_ret
    exact ⟨by (rfl), by repeat (exact Drawn0.refl _)⟩
  rw [if_neg c2] at H
  have c2b0 : decide (a0 < 0) = false := decide_eq_false c2
  clear c2
  by_cases c3 : a0 > 65536
  · rw [if_pos c3] at H
    have c3b0 : decide (65536 < a0) = true := decide_eq_true c3
    clear c3
    obtain rfl := Option.some.inj H
    go_enter Try.func98, Try.ntmps98
    go_wp2
    go_ret
    exact ⟨by (rfl), by repeat (exact Drawn0.refl _)⟩
  rw [if_neg c3] at H
  have c3b0 : decide (65536 < a0) = false := decide_eq_false c3
  clear c3
  obtain rfl := Option.some.inj H
  go_enter Try.func98, Try.ntmps98
  go_wp2
  go_ret
  exact ⟨by (rfl), by repeat (exact Drawn0.refl _)⟩

/-! ### notaryref02_Most: function 99 -/
def notaryref02_Most.l0 : Nat → List Int → List Int → Int → Option (Bool)
  | 0, _, _, _ => none
  | k + 1, x0, x1, x5 => if x5 ≥ 0 then (if 0 ≤ x5 then (if x5 < (x0.length : Int) then (if x5 < (x1.length : Int) then (if (rd x0 x5) = (rd x1 x5) then (notaryref02_Most.l0 k x0 x1 (wrap64 (x5 - 1))) else (some (decide ((rd x0 x5) < (rd x1 x5))))) else (none)) else (none)) else (none)) else (some true)
def notaryref02_Most.f (k : Nat) (l0 : List Int) (l1 : List Int) : Option (Bool) := notaryref02_Most.l0 k l0 l1 19
theorem notaryref02_Most.mono_l : ∀ k, (∀ y0 y1 y2, LeO (notaryref02_Most.l0 k y0 y1 y2) (notaryref02_Most.l0 (k + 1) y0 y1 y2))
  | 0 => fun _ _ _ r h => by simp [notaryref02_Most.l0] at h
  | k + 1 => by
    have ih0 := notaryref02_Most.mono_l k
    · intro y0 y1 y2
      unfold notaryref02_Most.l0
      repeat' first | (with_reducible exact ih0 _ _ _) | (with_reducible exact LeO.refl _) | (with_reducible refine LeO.ite ?_ ?_)
theorem notaryref02_Most.mono : ∀ a0 a1 k, LeO (notaryref02_Most.f k a0 a1) (notaryref02_Most.f (k + 1) a0 a1) := by
  intro a0 a1 k
  have ih0 := notaryref02_Most.mono_l k
  unfold notaryref02_Most.f
  repeat' first | (with_reducible exact ih0 _ _ _)
set_option maxHeartbeats 8000000 in
set_option maxRecDepth 100000 in
theorem notaryref02_Most.calls (k : Nat) (A0 : Option Addr) (c0 : Nat) (l0 : List Int) (A1 : Option Addr) (c1 : Nat) (l1 : List Int) (r : Bool) (w : World) (hr0 : Kd.C (Kd.int .u64) w A0 l0.length l0) (hc0 : l0.length ≤ c0) (hr1 : Kd.C (Kd.int .u64) w A1 l1.length l1) (hc1 : l1.length ≤ c1) (h : notaryref02_Most.f k l0 l1 = some r) :
    Calls Try.prog 99 #[.slice A0 l0.length c0, .slice A1 l1.length c1] w fun e w' => e = .returned (.bool r) ∧ Drawn0 w w' := by
  have HR0 := Aside0.mk hr0
  have HC0 := Aside0.mk hc0
  clear hr0 hc0
  have HR1 := Aside0.mk hr1
  have HC1 := Aside0.mk hc1
  clear hr1 hc1
  have H : (notaryref02_Most.l0 k l0 l1 19) = some r := h
  clear h
  have H' := Aside0.mk H
  clear H
  go_enter Try.func99, Try.ntmps99
  go_wp2
  repeat (go_quiet (fail); skip)
  go_loopg [5] k (fun kq v5 w' => ∃ (x5_1 : Int), v5 = .int .i64 x5_1 ∧ Aside0 (notaryref02_Most.l0 kq l0 l1 x5_1 = some r) ∧ Aside0 (kq ≤ k) ∧ Drawn0 w w')
  case atStart => exact ⟨(19), (by (rfl)), H', ⟨Nat.le_refl _⟩, by repeat (exact Drawn0.refl _)⟩
  clear H'
  obtain ⟨x5_1, rfl, HA, HK1, ⟨m1, rfl⟩⟩ := hrel
  rcases gk with _ | k1
  · exact absurd HA.out (by simp [notaryref02_Most.l0])
  have H := HA.out
  clear HA
  simp only [notaryref02_Most.l0] at H
  by_cases c3 : x5_1 ≥ 0
  rotate_left
  · rw [if_neg c3] at H
    have c3b0 : decide (0 ≤ x5_1) = false := decide_eq_false c3
    clear c3
    obtain rfl := Option.some.inj H
    go_wp2
    repeat (go_quiet (fail); skip)
    go_ret
    exact ⟨by (rfl), by repeat (first | exact Drawn0.refl _ | apply Drawn0.step)⟩


  rw [if_pos c3] at H
  have c3b0 : decide (0 ≤ x5_1) = true := decide_eq_true c3
  clear c3
  by_cases c4 : 0 ≤ x5_1
  rotate_left
  · rw [if_neg c4] at H
    exact absurd H (by simp)
  rw [if_pos c4] at H
  have c4b0 : decide (0 ≤ x5_1) = true := decide_eq_true c4
  clear c4
  by_cases c5 : x5_1 < (l0.length : Int)
  rotate_left
  · rw [if_neg c5] at H
    exact absurd H (by simp)
  rw [if_pos c5] at H
  have c5b0 : decide (x5_1 < (l0.length : Int)) = true := decide_eq_true c5
  clear c5
  by_cases c6 : x5_1 < (l1.length : Int)
  rotate_left
  · rw [if_neg c6] at H
    exact absurd H (by simp)
  rw [if_pos c6] at H
  have c6b0 : decide (x5_1 < (l1.length : Int)) = true := decide_eq_true c6
  clear c6
  by_cases c7 : (rd l0 x5_1) = (rd l1 x5_1)
  · rw [if_pos c7] at H
    have c7b0 : ((rd l0 x5_1) == (rd l1 x5_1)) = true := beq_iff_eq.mpr c7
    have c7b1 : ((rd l0 x5_1) != (rd l1 x5_1)) = false := bne_eq_false_iff_eq.mpr c7
    clear c7
    have H' := Aside0.mk H
    clear H
    have p269 : 0 ≤ (x5_1 : Int) := of_decide_eq_true (by (with_reducible assumption))
    have q269 : x5_1 < (l0.length : Int) := of_decide_eq_true (by (with_reducible assumption))
    obtain ⟨ad269, e269, hx269_0⟩ := Kd.at_int HR0.out x5_1 p269 q269
    cases e269
    replace p269 := eq_true p269
    replace q269 := eq_true q269
    have p270 : 0 ≤ (x5_1 : Int) := of_decide_eq_true (by (with_reducible assumption))
    have q270 : x5_1 < (l1.length : Int) := of_decide_eq_true (by (with_reducible assumption))
    obtain ⟨ad270, e270, hx270_0⟩ := Kd.at_int HR1.out x5_1 p270 q270
    cases e270
    replace p270 := eq_true p270
    replace q270 := eq_true q270
    go_wp2
    repeat (go_quiet (fail); try go_wp2)
    go_roundg k1
    case measure => have := HK1.out; omega
    case rel => exact ⟨(wrap64 (x5_1 - 1)), (by (rfl)), H', ⟨by have := HK1.out; omega⟩, by repeat (first | exact Drawn0.refl _ | apply Drawn0.step)⟩
  rw [if_neg c7] at H
  have c7b0 : ((rd l0 x5_1) == (rd l1 x5_1)) = false := beq_eq_false_iff_ne.mpr c7
  have c7b1 : ((rd l0 x5_1) != (rd l1 x5_1)) = true := bne_iff_ne.mpr c7
  obtain rfl := Option.some.inj H
  have p269 : 0 ≤ (x5_1 : Int) := of_decide_eq_true (by (with_reducible assumption))
  have q269 : x5_1 < (l0.length : Int) := of_decide_eq_true (by (with_reducible assumption))
  obtain ⟨ad269, e269, hx269_0⟩ := Kd.at_int HR0.out x5_1 p269 q269
  cases e269
  replace p269 := eq_true p269
  replace q269 := eq_true q269
  have p270 : 0 ≤ (x5_1 : Int) := of_decide_eq_true (by (with_reducible assumption))
  have q270 : x5_1 < (l1.length : Int) := of_decide_eq_true (by (with_reducible assumption))
  obtain ⟨ad270, e270, hx270_0⟩ := Kd.at_int HR1.out x5_1 p270 q270
  cases e270
  replace p270 := eq_true p270
  replace q270 := eq_true q270
  have p271 : 0 ≤ (x5_1 : Int) := of_decide_eq_true (by (with_reducible assumption))
  have q271 : x5_1 < (l0.length : Int) := of_decide_eq_true (by (with_reducible assumption))
  obtain ⟨ad271, e271, hx271_0⟩ := Kd.at_int HR0.out x5_1 p271 q271
  obtain rfl : ad269 = ad271 := (by injection e271)
  replace p271 := eq_true p271
  replace q271 := eq_true q271
  have p272 : 0 ≤ (x5_1 : Int) := of_decide_eq_true (by (with_reducible assumption))
  have q272 : x5_1 < (l1.length : Int) := of_decide_eq_true (by (with_reducible assumption))
  obtain ⟨ad272, e272, hx272_0⟩ := Kd.at_int HR1.out x5_1 p272 q272
  obtain rfl : ad270 = ad272 := (by injection e272)
  replace p272 := eq_true p272
  replace q272 := eq_true q272
  go_wp2
  repeat (go_quiet (fail); try go_wp2)
  go_ret
  exact ⟨by (rfl), by repeat (first | exact Drawn0.refl _ | apply Drawn0.step)⟩/-! ### notaryref02_Times: function 101 -/
mutual
def notaryref02_Times.l0 : Nat → List Int → Int → List Int → Int → Int → Option (List Int)
  | 0, _, _, _, _, _ => none
  | k + 1, x0, x1, x5, x6, x7 => if x7 < (x0.length : Int) then (if 0 ≤ x7 then (if x5.length < 17592186044416 then (notaryref02_Times.l0 k x0 x1 (x5 ++ [Int.tmod (IntKind.u64.wrap ((IntKind.u64.wrap ((rd x0 x7) * x1)) + x6)) 65536]) (IntKind.u64.wrap (Int.tdiv (IntKind.u64.wrap ((IntKind.u64.wrap ((rd x0 x7) * x1)) + x6)) 65536)) (wrap64 (x7 + 1))) else (none)) else (none)) else (notaryref02_Times.l1 k x5 x6 0)
def notaryref02_Times.l1 : Nat → List Int → Int → Int → Option (List Int)
  | 0, _, _, _ => none
  | k + 1, x5, x6, x9 => if x9 < 4 then (if x5.length < 17592186044416 then (notaryref02_Times.l1 k (x5 ++ [Int.tmod x6 65536]) (IntKind.u64.wrap (Int.tdiv x6 65536)) (wrap64 (x9 + 1))) else (none)) else (some x5)
end
def notaryref02_Times.f (k : Nat) (l0 : List Int) (a1 : Int) : Option (List Int) := notaryref02_Times.l0 k l0 a1 ([] : List Int) 0 0
theorem notaryref02_Times.mono_l : ∀ k, (∀ y0 y1 y2 y3 y4, LeO (notaryref02_Times.l0 k y0 y1 y2 y3 y4) (notaryref02_Times.l0 (k + 1) y0 y1 y2 y3 y4)) ∧ (∀ y0 y1 y2, LeO (notaryref02_Times.l1 k y0 y1 y2) (notaryref02_Times.l1 (k + 1) y0 y1 y2))
  | 0 => ⟨fun _ _ _ _ _ r h => by simp [notaryref02_Times.l0] at h, fun _ _ _ r h => by simp [notaryref02_Times.l1] at h⟩
  | k + 1 => by
    obtain ⟨ih0, ih1⟩ := notaryref02_Times.mono_l k
    refine ⟨?_, ?_⟩
    · intro y0 y1 y2 y3 y4
      unfold notaryref02_Times.l0
      repeat' first | (with_reducible exact ih0 _ _ _ _ _) | (with_reducible exact ih1 _ _ _) | (with_reducible exact LeO.refl _) | (with_reducible refine LeO.ite ?_ ?_)
    · intro y0 y1 y2
      unfold notaryref02_Times.l1
      repeat' first | (with_reducible exact ih1 _ _ _) | (with_reducible exact LeO.refl _) | (with_reducible refine LeO.ite ?_ ?_)
theorem notaryref02_Times.mono : ∀ a0 a1 k, LeO (notaryref02_Times.f k a0 a1) (notaryref02_Times.f (k + 1) a0 a1) := by
  intro a0 a1 k
  obtain ⟨ih0, ih1⟩ := notaryref02_Times.mono_l k
  unfold notaryref02_Times.f
  repeat' first | (with_reducible exact ih0 _ _ _ _ _)
set_option maxHeartbeats 8000000 in
set_option maxRecDepth 100000 in
theorem notaryref02_Times.calls (k : Nat) (A0 : Option Addr) (c0 : Nat) (l0 : List Int) (a1 : Int) (r : List Int) (w : World) (hr0 : Kd.C (Kd.int .u64) w A0 l0.length l0) (hc0 : l0.length ≤ c0) (h : notaryref02_Times.f k l0 a1 = some r) :
    Calls Try.prog 101 #[.slice A0 l0.length c0, .int .u64 a1] w fun e w' => ∃ v0_ : Value, e = .returned (v0_) ∧ Kd.R (Kd.int .u64) 92 w' w.heap.size (fun _ => True) v0_ r ∧ Below w.heap.size w w' := by
  have HR0 := Aside0.mk hr0
  have HC0 := Aside0.mk hc0
  clear hr0 hc0
  have HB := Aside0.mk (Below.refl w.heap.size w)
  have H : (notaryref02_Times.l0 k l0 a1 ([] : List Int) 0 0) = some r := h
  clear h
  obtain ⟨y273, hy273⟩ : ∃ y_ : List Int, y_ = ([] : List Int) := ⟨_, rfl⟩
  replace H : (notaryref02_Times.l0 k l0 a1 y273 0 0) = some r := by (rw [hy273]; with_reducible exact H)
  have Ny273 := Aside0.mk hy273
  clear hy273
  have H' := Aside0.mk H
  clear H
  go_enter Try.func101, Try.ntmps101
  go_wp2_with ((((with_reducible refine gate_dst (N := 10) rfl ?_); refine Kd.R_lit (Kd.int .u64) _ 92 ?hg (N := 10) ?hd (xs := ([] : List Int)) (inner := []) (ok := fun _ => True) (okp := fun _ => True) ?hr ?hp (fun _ hk => hk) trivial (Below.refl _ _) (Nat.le_refl _) (by simp) ?_; (case hd => rfl); (case hg => rfl); (case hr => (go_simp; done)); (case hp => exact (Reps.none _ _)); intro v274 w3 ho4 hb hg_ hnew_; clear hg_ hnew_; (rw [← Ny273.out] at ho4); have n0_ := Aside0.mk (Kd.R_lower ho4 (below_size HB.out)); have n1_ := Aside0.mk (below_step HB.out hb); clear HB; have HO275 := n0_; have HB := n1_; clear n0_ n1_; clear hb ho4)))
  go_loopg [5, 6, 7] k (fun kq v5 v6 v7 w' => ∃ (x5_1 : List Int) (x6_1 : Int) (x7_1 : Int), v6 = .int .u64 x6_1 ∧ v7 = .int .i64 x7_1 ∧ Aside0 (notaryref02_Times.l0 kq l0 a1 x5_1 x6_1 x7_1 = some r) ∧ Aside0 (kq ≤ k) ∧ Aside0 (Kd.R (Kd.int .u64) 92 w' w.heap.size (fun _ => True) v5 x5_1) ∧ Aside0 (Below w.heap.size w w'))
  case atStart => exact ⟨(y273), (0), (0), (by (rfl)), (by (rfl)), H', ⟨Nat.le_refl _⟩, ⟨by exact HO275.out⟩, ⟨HB.out⟩⟩
  clear H'
  obtain ⟨x5_1, x6_1, x7_1, rfl, rfl, HA, HK1, HO_5, HB⟩ := hrel
  rcases gk with _ | k1
  · exact absurd HA.out (by simp [notaryref02_Times.l0])
  have H := HA.out
  clear HA
  simp only [notaryref02_Times.l0] at H
  by_cases c5 : x7_1 < (l0.length : Int)
  · rw [if_pos c5] at H
    have c5b0 : decide (x7_1 < (l0.length : Int)) = true := decide_eq_true c5
    clear c5
    by_cases c6 : 0 ≤ x7_1
    rotate_left
    · rw [if_neg c6] at H
      exact absurd H (by simp)
    rw [if_pos c6] at H
    have c6b0 : decide (0 ≤ x7_1) = true := decide_eq_true c6
    clear c6
    by_cases c7 : x5_1.length < 17592186044416
    rotate_left
    · rw [if_neg c7] at H
      exact absurd H (by simp)
    rw [if_pos c7] at H
    have LMc7 := Aside0.mk c7
    clear c7
    obtain ⟨y277, hy277⟩ : ∃ y_ : List Int, y_ = (x5_1 ++ [Int.tmod (IntKind.u64.wrap ((IntKind.u64.wrap ((rd l0 x7_1) * a1)) + x6_1)) 65536]) := ⟨_, rfl⟩
    replace H : (notaryref02_Times.l0 k1 l0 a1 y277 (IntKind.u64.wrap (Int.tdiv (IntKind.u64.wrap ((IntKind.u64.wrap ((rd l0 x7_1) * a1)) + x6_1)) 65536)) (wrap64 (x7_1 + 1))) = some r := by (rw [hy277]; with_reducible exact H)
    have Ny277 := Aside0.mk hy277
    clear hy277
    have H' := Aside0.mk H
    clear H
    have p276 : 0 ≤ (x7_1 : Int) := of_decide_eq_true (by (with_reducible assumption))
    have q276 : x7_1 < (l0.length : Int) := of_decide_eq_true (by (with_reducible assumption))
    obtain ⟨ad276, e276, hx276_0⟩ := Kd.at_int HR0.out x7_1 p276 q276
    cases e276
    replace hx276_0 := pw_cell_below HB.out hx276_0
    replace p276 := eq_true p276
    replace q276 := eq_true q276
    go_wp2_with ((((with_reducible refine gate_builtin (b := .append) (xs := #[.tmp 25, .tmp 28]) rfl ?_); at_builtin; refine Kd.R_append (Kd.int .u64) (w0 := w) w.heap.size rfl (.tmp 25) (.tmp 28) 129 92 (.int .u64 0) 8 rfl Try.underlying129 info92 rfl (by decide) (by omega) u5 x5_1 (Int.tmod (IntKind.u64.wrap ((IntKind.u64.wrap ((rd l0 x7_1) * a1)) + x6_1)) 65536) [.int .u64 (Int.tmod (IntKind.u64.wrap ((IntKind.u64.wrap ((rd l0 x7_1) * a1)) + x6_1)) 65536)] (fun _ => True) (fun _ => False) rfl rfl ?aP (fun _ hk => hk.elim) ?aF ?aO ?aB ?aS ?aL ?_; (case aP => exact rfl); (case aB => exact HB.out); (case aF => exact (fun _ _ => trivial)); (case aO => exact (by exact HO_5.out)); (case aS => exact (below_size HB.out)); (case aL => have := LMc7.out; omega); intro v278 w8 ho hb hg hat; rw [← Ny277.out] at ho; have n0_ := Aside0.mk (hb); have n1_ := Aside0.mk (ho); clear HB; clear HO_5; have HB := n0_; have HO279 := n1_; clear n0_ n1_; clear ho hb hg hat)))
    go_roundg k1
    case measure => have := HK1.out; omega
    case rel => exact ⟨(y277), (IntKind.u64.wrap (Int.tdiv (IntKind.u64.wrap ((IntKind.u64.wrap ((rd l0 x7_1) * a1)) + x6_1)) 65536)), (wrap64 (x7_1 + 1)), (by (rfl)), (by (rfl)), H', ⟨by have := HK1.out; omega⟩, ⟨by exact HO279.out⟩, ⟨HB.out⟩⟩
  rw [if_neg c5] at H
  have c5b0 : decide (x7_1 < (l0.length : Int)) = false := decide_eq_false c5
  clear c5
  have H' := Aside0.mk H
  clear H
  go_wp2
  go_loopg [5, 6, 9] k1 (fun kq v5 v6 v9 w' => ∃ (x5_2 : List Int) (x6_2 : Int) (x9_2 : Int), v6 = .int .u64 x6_2 ∧ v9 = .int .i64 x9_2 ∧ Aside0 (notaryref02_Times.l1 kq x5_2 x6_2 x9_2 = some r) ∧ Aside0 (kq ≤ k1) ∧ Aside0 (Kd.R (Kd.int .u64) 92 w' w.heap.size (fun _ => True) v5 x5_2) ∧ Aside0 (Below w.heap.size w w'))
  case atStart => exact ⟨(x5_1), (x6_1), (0), (by (rfl)), (by (rfl)), H', ⟨Nat.le_refl _⟩, ⟨by exact HO_5.out⟩, ⟨HB.out⟩⟩
  clear H'
  try clear c5b0
  obtain ⟨x5_2, x6_2, x9_2, rfl, rfl, HA, HK2, HO_5, HB⟩ := hrel
  rcases gk with _ | k2
  · exact absurd HA.out (by simp [notaryref02_Times.l1])
  have H := HA.out
  clear HA
  simp only [notaryref02_Times.l1] at H
  by_cases c9 : x9_2 < 4
  rotate_left
  · rw [if_neg c9] at H
    have c9b0 : decide (x9_2 < 4) = false := decide_eq_false c9
    clear c9
    obtain rfl := Option.some.inj H
    go_wp2
    go_ret
    exact ⟨_, by (rfl), by exact HO_5.out, HB.out⟩


  rw [if_pos c9] at H
  have c9b0 : decide (x9_2 < 4) = true := decide_eq_true c9
  clear c9
  by_cases c10 : x5_2.length < 17592186044416
  rotate_left
  · rw [if_neg c10] at H
    exact absurd H (by simp)
  rw [if_pos c10] at H
  have LMc10 := Aside0.mk c10
  clear c10
  obtain ⟨y280, hy280⟩ : ∃ y_ : List Int, y_ = (x5_2 ++ [Int.tmod x6_2 65536]) := ⟨_, rfl⟩
  replace H : (notaryref02_Times.l1 k2 y280 (IntKind.u64.wrap (Int.tdiv x6_2 65536)) (wrap64 (x9_2 + 1))) = some r := by (rw [hy280]; with_reducible exact H)
  have Ny280 := Aside0.mk hy280
  clear hy280
  have H' := Aside0.mk H
  clear H
  go_wp2_with ((((with_reducible refine gate_builtin (b := .append) (xs := #[.tmp 36, .tmp 39]) rfl ?_); at_builtin; refine Kd.R_append (Kd.int .u64) (w0 := w) w.heap.size rfl (.tmp 36) (.tmp 39) 129 92 (.int .u64 0) 8 rfl Try.underlying129 info92 rfl (by decide) (by omega) u5 x5_2 (Int.tmod x6_2 65536) [.int .u64 (Int.tmod x6_2 65536)] (fun _ => True) (fun _ => False) rfl rfl ?aP (fun _ hk => hk.elim) ?aF ?aO ?aB ?aS ?aL ?_; (case aP => exact rfl); (case aB => exact HB.out); (case aF => exact (fun _ _ => trivial)); (case aO => exact (by exact HO_5.out)); (case aS => exact (below_size HB.out)); (case aL => have := LMc10.out; omega); intro v281 w11 ho hb hg hat; rw [← Ny280.out] at ho; have n0_ := Aside0.mk (hb); have n1_ := Aside0.mk (ho); clear HB; clear HO_5; have HB := n0_; have HO282 := n1_; clear n0_ n1_; clear ho hb hg hat)))
  go_roundg k2
  case measure => have := HK1.out; have := HK2.out; omega
  case rel => exact ⟨(y280), (IntKind.u64.wrap (Int.tdiv x6_2 65536)), (wrap64 (x9_2 + 1)), (by (rfl)), (by (rfl)), H', ⟨by have := HK1.out; have := HK2.out; omega⟩, ⟨by exact HO282.out⟩, ⟨HB.out⟩⟩/-! ### notaryref02_Power: function 100 -/
mutual
def notaryref02_Power.l0 : Nat → Int → Int → List Int → Int → Option (List Int)
  | 0, _, _, _, _ => none
  | k + 1, x0, x1, x5, x6 => if x6 < x1 then ((notaryref02_Times.f k x5 x0).bind fun t286 => (notaryref02_Power.l0 k x0 x1 t286 (wrap64 (x6 + 1)))) else (notaryref02_Power.l1 k x5)
def notaryref02_Power.l1 : Nat → List Int → Option (List Int)
  | 0, _ => none
  | k + 1, x5 => if (x5.length : Int) < 20 then (if x5.length < 17592186044416 then (notaryref02_Power.l1 k (x5 ++ [0])) else (none)) else (some x5)
end
def notaryref02_Power.f (k : Nat) (a0 : Int) (a1 : Int) : Option (List Int) := notaryref02_Power.l0 k a0 a1 ([1] : List Int) 0
theorem notaryref02_Power.mono_l : ∀ k, (∀ y0 y1 y2 y3, LeO (notaryref02_Power.l0 k y0 y1 y2 y3) (notaryref02_Power.l0 (k + 1) y0 y1 y2 y3)) ∧ (∀ y0, LeO (notaryref02_Power.l1 k y0) (notaryref02_Power.l1 (k + 1) y0))
  | 0 => ⟨fun _ _ _ _ r h => by simp [notaryref02_Power.l0] at h, fun _ r h => by simp [notaryref02_Power.l1] at h⟩
  | k + 1 => by
    obtain ⟨ih0, ih1⟩ := notaryref02_Power.mono_l k
    refine ⟨?_, ?_⟩
    · intro y0 y1 y2 y3
      unfold notaryref02_Power.l0
      repeat' first | (with_reducible exact ih0 _ _ _ _) | (with_reducible exact ih1 _) | (with_reducible exact notaryref02_Times.mono _ _ _) | (with_reducible refine LeO.ite ?_ ?_) | (with_reducible refine LeO.bind ?_ (fun _ => ?_))
    · intro y0
      unfold notaryref02_Power.l1
      repeat' first | (with_reducible exact ih1 _) | (with_reducible exact LeO.refl _) | (with_reducible refine LeO.ite ?_ ?_)
theorem notaryref02_Power.mono : ∀ a0 a1 k, LeO (notaryref02_Power.f k a0 a1) (notaryref02_Power.f (k + 1) a0 a1) := by
  intro a0 a1 k
  obtain ⟨ih0, ih1⟩ := notaryref02_Power.mono_l k
  unfold notaryref02_Power.f
  repeat' first | (with_reducible exact ih0 _ _ _ _)
set_option maxHeartbeats 8000000 in
set_option maxRecDepth 100000 in
theorem notaryref02_Power.calls (k : Nat) (a0 : Int) (a1 : Int) (r : List Int) (w : World) (h : notaryref02_Power.f k a0 a1 = some r) :
    Calls Try.prog 100 #[.int .u64 a0, .int .i64 a1] w fun e w' => ∃ v0_ : Value, e = .returned (v0_) ∧ Kd.R (Kd.int .u64) 92 w' w.heap.size (fun _ => True) v0_ r ∧ Below w.heap.size w w' := by
  have HB := Aside0.mk (Below.refl w.heap.size w)
  have H : (notaryref02_Power.l0 k a0 a1 ([1] : List Int) 0) = some r := h
  clear h
  obtain ⟨y283, hy283⟩ : ∃ y_ : List Int, y_ = ([1] : List Int) := ⟨_, rfl⟩
  replace H : (notaryref02_Power.l0 k a0 a1 y283 0) = some r := by (rw [hy283]; with_reducible exact H)
  have Ny283 := Aside0.mk hy283
  clear hy283
  have H' := Aside0.mk H
  clear H
  go_enter Try.func100, Try.ntmps100
  go_wp2_with ((((with_reducible refine gate_dst (N := 7) rfl ?_); refine Kd.R_lit (Kd.int .u64) _ 92 ?hg (N := 7) ?hd (xs := ([1] : List Int)) (inner := [.int .u64 1]) (ok := fun _ => True) (okp := fun _ => True) ?hr ?hp (fun _ hk => hk) trivial (Below.refl _ _) (Nat.le_refl _) (by simp) ?_; (case hd => rfl); (case hg => rfl); (case hr => (go_simp; done)); (case hp => exact (Reps.one (show Kd.M (Kd.int .u64) _ _ _ 1 [.int .u64 1] from rfl) (Reps.none _ _))); intro v284 w3 ho4 hb hg_ hnew_; clear hg_ hnew_; (rw [← Ny283.out] at ho4); have n0_ := Aside0.mk (Kd.R_lower ho4 (below_size HB.out)); have n1_ := Aside0.mk (below_step HB.out hb); clear HB; have HO285 := n0_; have HB := n1_; clear n0_ n1_; clear hb ho4)))
  go_loopg [5, 6] k (fun kq v5 v6 w' => ∃ (x5_1 : List Int) (x6_1 : Int), v6 = .int .i64 x6_1 ∧ Aside0 (notaryref02_Power.l0 kq a0 a1 x5_1 x6_1 = some r) ∧ Aside0 (kq ≤ k) ∧ Aside0 (Kd.R (Kd.int .u64) 92 w' w.heap.size (fun _ => True) v5 x5_1) ∧ Aside0 (Below w.heap.size w w'))
  case atStart => exact ⟨(y283), (0), (by (rfl)), H', ⟨Nat.le_refl _⟩, ⟨by exact HO285.out⟩, ⟨HB.out⟩⟩
  clear H'
  obtain ⟨x5_1, x6_1, rfl, HA, HK1, HO_5, HB⟩ := hrel
  rcases gk with _ | k1
  · exact absurd HA.out (by simp [notaryref02_Power.l0])
  have H := HA.out
  clear HA
  simp only [notaryref02_Power.l0] at H
  by_cases c5 : x6_1 < a1
  · rw [if_pos c5] at H
    have c5b0 : decide (x6_1 < a1) = true := decide_eq_true c5
    clear c5
    replace H := Option.bind_eq_some_iff.mp H
    obtain ⟨t286, A60, H⟩ := H
    replace H : (notaryref02_Power.l0 k1 a0 a1 t286 (wrap64 (x6_1 + 1))) = some r := H
    have A6 := Aside0.mk A60
    clear A60
    have H' := Aside0.mk H
    clear H
    obtain ⟨Ao7, co7, eo7⟩ := Kd.R_slice HO_5.out
    subst eo7
    go_wp2_with ((((with_reducible refine gate_callee (f := 101) rfl ?_); refine goesL_ (some 15) rfl rfl Try.func101 (by kernel_rfl) rfl #[.slice Ao7 x5_1.length co7, .int .u64 a0] rfl (by (try simp only [List.map_toArray, List.map_cons, List.map_nil]); (rfl)) ?_; (with_reducible refine (notaryref02_Times.calls k1 _ _ x5_1 a0 t286 _ ?side1 ?side2 A6.out).mono ?_); (case side1 => repeat ((exact (Kd.R_reads' HO_5.out).2.2))); (case side2 => exact (Kd.R_reads' HO_5.out).2.1); rintro e w8 ⟨v287, rfl, ho0, hb⟩; refine ⟨_, rfl, ?_⟩; have n0_ := Aside0.mk (Kd.R_elder' (by exact HO_5.out) (Kd.R_base ho0) hb); have n1_ := Aside0.mk (Kd.R_lower (Kd.R_new' ho0 (Kd.R_lt (by exact HO_5.out))) (below_size HB.out)); have n2_ := Aside0.mk (below_step HB.out hb); clear HO_5; clear HB; have HO_5 := n0_; have HO288 := n1_; have HB := n2_; clear n0_ n1_ n2_; (try clear hb); (try clear ho0))))
    go_roundg k1
    case measure => have := HK1.out; omega
    case rel => exact ⟨(t286), (wrap64 (x6_1 + 1)), (by (rfl)), H', ⟨by have := HK1.out; omega⟩, ⟨by exact Kd.R_mono HO288.out (fun _ hk => trivial)⟩, ⟨HB.out⟩⟩
  rw [if_neg c5] at H
  have c5b0 : decide (x6_1 < a1) = false := decide_eq_false c5
  clear c5
  have H' := Aside0.mk H
  clear H
  go_wp2
  go_loopg [5] k1 (fun kq v5 w' => ∃ (x5_2 : List Int), Aside0 (notaryref02_Power.l1 kq x5_2 = some r) ∧ Aside0 (kq ≤ k1) ∧ Aside0 (Kd.R (Kd.int .u64) 92 w' w.heap.size (fun _ => True) v5 x5_2) ∧ Aside0 (Below w.heap.size w w'))
  case atStart => exact ⟨(x5_1), H', ⟨Nat.le_refl _⟩, ⟨by exact HO_5.out⟩, ⟨HB.out⟩⟩
  clear H'
  try clear c5b0
  obtain ⟨x5_2, HA, HK2, HO_5, HB⟩ := hrel
  rcases gk with _ | k2
  · exact absurd HA.out (by simp [notaryref02_Power.l1])
  have H := HA.out
  clear HA
  simp only [notaryref02_Power.l1] at H
  by_cases c9 : (x5_2.length : Int) < 20
  rotate_left
  · rw [if_neg c9] at H
    have c9b0 : decide ((x5_2.length : Int) < 20) = false := decide_eq_false c9
    have c9b1 : decide (x5_2.length < 20) = false := decide_eq_false (by omega)
    clear c9
    obtain rfl := Option.some.inj H
    obtain ⟨Ao13, co13, eo13⟩ := Kd.R_slice HO_5.out
    subst eo13
    go_wp2
    go_ret
    exact ⟨_, by (rfl), by exact HO_5.out, HB.out⟩

  rw [if_pos c9] at H
  have c9b0 : decide ((x5_2.length : Int) < 20) = true := decide_eq_true c9
  have c9b1 : decide (x5_2.length < 20) = true := decide_eq_true (by omega)
  clear c9
  by_cases c10 : x5_2.length < 17592186044416
  rotate_left
  · rw [if_neg c10] at H
    exact absurd H (by simp)
  rw [if_pos c10] at H
  have LMc10 := Aside0.mk c10
  clear c10
  obtain ⟨y289, hy289⟩ : ∃ y_ : List Int, y_ = (x5_2 ++ [0]) := ⟨_, rfl⟩
  replace H : (notaryref02_Power.l1 k2 y289) = some r := by (rw [hy289]; with_reducible exact H)
  have Ny289 := Aside0.mk hy289
  clear hy289
  have H' := Aside0.mk H
  clear H
  obtain ⟨Ao11, co11, eo11⟩ := Kd.R_slice HO_5.out
  subst eo11
  go_wp2_with ((((with_reducible refine gate_builtin (b := .append) (xs := #[.tmp 19, .tmp 20]) rfl ?_); at_builtin; refine Kd.R_append (Kd.int .u64) (w0 := w) w.heap.size rfl (.tmp 19) (.tmp 20) 129 92 (.int .u64 0) 8 rfl Try.underlying129 info92 rfl (by decide) (by omega) (.slice Ao11 x5_2.length co11) x5_2 0 [.int .u64 0] (fun _ => True) (fun _ => False) rfl rfl ?aP (fun _ hk => hk.elim) ?aF ?aO ?aB ?aS ?aL ?_; (case aP => exact rfl); (case aB => exact HB.out); (case aF => exact (fun _ _ => trivial)); (case aO => exact (by exact HO_5.out)); (case aS => exact (below_size HB.out)); (case aL => have := LMc10.out; omega); intro v290 w12 ho hb hg hat; rw [← Ny289.out] at ho; have n0_ := Aside0.mk (hb); have n1_ := Aside0.mk (ho); clear HB; clear HO_5; have HB := n0_; have HO291 := n1_; clear n0_ n1_; clear ho hb hg hat)))
  go_roundg k2
  case measure => have := HK1.out; have := HK2.out; omega
  case rel => exact ⟨(y289), H', ⟨by have := HK1.out; have := HK2.out; omega⟩, ⟨by exact HO291.out⟩, ⟨HB.out⟩⟩
end Go.Proofs.Ytogjnipojakfjaa.PJr
