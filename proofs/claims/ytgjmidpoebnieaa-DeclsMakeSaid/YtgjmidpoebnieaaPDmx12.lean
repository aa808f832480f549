-- SLIM: a printed text of which the unused ways are cut off
-- PRINTED by print.py (a twelfth state) out of the translation. Not trusted: Lean checks it.
import Derived.Test.YtgjmidpoebnieaaPDmx0
import Derived.Test.YtgjmidpoebnieaaPDmx4
import Derived.Test.YtgjmidpoebnieaaPDmx7
namespace Go.Proofs.Ytgjmidpoebnieaa.PDm
open Go.RowKit Go.Proofs.YtgjmidpoebnieaaW.PrintWords Go.Proofs.YtgjmidpoebnieaaW.PrintLast Go.Proofs.YtgjmidpoebnieaaW.PrintMore
attribute [local go_sem] max2_int min2_int max_two min_two max_three min_three max_four min_four   -- for this text's walks alone
set_option linter.unusedVariables false
set_option linter.unusedSimpArgs false

/-! ### notaryref32_Pairs: function 16 -/
mutual
def notaryref32_Pairs.j0 : Nat → Int → List Int → Int → List Int → Option ((List (S57)))
  | 0, _, _, _, _ => none
  | k + 1, x0, x1, x2, x7 => if x0 = 51 then (notaryref32_Pairs.j1 k x1 x2 x7 ((x1.length : Int) == 1)) else (notaryref32_Pairs.j1 k x1 x2 x7 false)
def notaryref32_Pairs.j1 : Nat → List Int → Int → List Int → Bool → Option ((List (S57)))
  | 0, _, _, _, _ => none
  | k + 1, x1, x2, x7, x27 => if x27 = true then (if 0 < (x1.length : Int) then ((notaryref32_Less.f k (rd x1 0) x2).bind fun t300 => (notaryref32_Pairs.j2 k t300)) else (none)) else (notaryref32_Pairs.j2 k x7)
def notaryref32_Pairs.j2 : Nat → List Int → Option ((List (S57)))
  | 0, _ => none
  | k + 1, x7 => notaryref32_Pairs.l0 k x7 (([] : List (S57))) 0
def notaryref32_Pairs.l0 : Nat → List Int → List (S57) → Int → Option ((List (S57)))
  | 0, _, _, _ => none
  | k + 1, x7, x8, x9 => if x9 < (x7.length : Int) then (if 0 ≤ x9 then (if (rd x7 x9) ≥ 0 then (if x8.length < 8796093022208 then (notaryref32_Pairs.l0 k x7 (x8 ++ [(⟨x9, rd x7 x9⟩ : S57)]) (wrap64 (x9 + 1))) else (none)) else (notaryref32_Pairs.l0 k x7 x8 (wrap64 (x9 + 1)))) else (none)) else (some x8)
end
def notaryref32_Pairs.f (k : Nat) (a0 : Int) (l1 : List Int) (a2 : Int) : Option ((List (S57))) := (notaryref32_Less.f k a2 a2).bind fun t292 => (if a0 = 50 then ((notaryref32_To.f k l1 a2).bind fun bt295 => (notaryref32_Pairs.j0 k a0 l1 a2 bt295.1)) else (notaryref32_Pairs.j0 k a0 l1 a2 t292))
theorem notaryref32_Pairs.mono_l : ∀ k, (∀ y0 y1 y2 y3, LeO (notaryref32_Pairs.j0 k y0 y1 y2 y3) (notaryref32_Pairs.j0 (k + 1) y0 y1 y2 y3)) ∧ (∀ y0 y1 y2 y3, LeO (notaryref32_Pairs.j1 k y0 y1 y2 y3) (notaryref32_Pairs.j1 (k + 1) y0 y1 y2 y3)) ∧ (∀ y0, LeO (notaryref32_Pairs.j2 k y0) (notaryref32_Pairs.j2 (k + 1) y0)) ∧ (∀ y0 y1 y2, LeO (notaryref32_Pairs.l0 k y0 y1 y2) (notaryref32_Pairs.l0 (k + 1) y0 y1 y2))
  | 0 => ⟨fun _ _ _ _ r h => by simp [notaryref32_Pairs.j0] at h, fun _ _ _ _ r h => by simp [notaryref32_Pairs.j1] at h, fun _ r h => by simp [notaryref32_Pairs.j2] at h, fun _ _ _ r h => by simp [notaryref32_Pairs.l0] at h⟩
  | k + 1 => by
    obtain ⟨ih0, ih1, ih2, ih3⟩ := notaryref32_Pairs.mono_l k
    refine ⟨?_, ?_, ?_, ?_⟩
    · intro y0 y1 y2 y3
      unfold notaryref32_Pairs.j0
      repeat' first | (with_reducible exact ih1 _ _ _ _) | (with_reducible refine LeO.ite ?_ ?_)
    · intro y0 y1 y2 y3
      unfold notaryref32_Pairs.j1
      repeat' first | (with_reducible exact ih2 _) | (with_reducible exact notaryref32_Less.mono _ _ _) | (with_reducible exact LeO.refl _) | (with_reducible refine LeO.ite ?_ ?_) | (with_reducible refine LeO.bind ?_ (fun _ => ?_))
    · intro y0
      unfold notaryref32_Pairs.j2
      repeat' first | (with_reducible exact ih3 _ _ _)
    · intro y0 y1 y2
      unfold notaryref32_Pairs.l0
      repeat' first | (with_reducible exact ih3 _ _ _) | (with_reducible exact LeO.refl _) | (with_reducible refine LeO.ite ?_ ?_)
theorem notaryref32_Pairs.mono : ∀ a0 a1 a2 k, LeO (notaryref32_Pairs.f k a0 a1 a2) (notaryref32_Pairs.f (k + 1) a0 a1 a2) := by
  intro a0 a1 a2 k
  obtain ⟨ih0, ih1, ih2, ih3⟩ := notaryref32_Pairs.mono_l k
  unfold notaryref32_Pairs.f
  repeat' first | (with_reducible exact ih0 _ _ _ _) | (with_reducible exact notaryref32_Less.mono _ _ _) | (with_reducible exact notaryref32_To.mono _ _ _) | (with_reducible refine LeO.ite ?_ ?_) | (with_reducible refine LeO.bind ?_ (fun _ => ?_))
set_option maxHeartbeats 8000000 in
set_option maxRecDepth 100000 in
theorem notaryref32_Pairs.calls (k : Nat) (a0 : Int) (A1 : Option Addr) (c1 : Nat) (l1 : List Int) (a2 : Int) (r : List (S57)) (w : World) (hr1 : Kd.C (Kd.int .i64) w A1 l1.length l1) (hc1 : l1.length ≤ c1) (h : notaryref32_Pairs.f k a0 l1 a2 = some r) :
    Calls Try.prog 16 #[.int .i64 a0, .slice A1 l1.length c1, .int .i64 a2] w fun e w' => ∃ v0_ : Value, e = .returned (v0_) ∧ Kd.R k57 57 w' w.heap.size (fun _ => True) v0_ r ∧ Below w.heap.size w w' := by
  have hu57 := Try.underlying57
  have HR1 := Aside0.mk hr1
  have HC1 := Aside0.mk hc1
  clear hr1 hc1
  have HB := Aside0.mk (Below.refl w.heap.size w)
  have H : ((notaryref32_Less.f k a2 a2).bind fun t292 => (if a0 = 50 then ((notaryref32_To.f k l1 a2).bind fun bt295 => (notaryref32_Pairs.j0 k a0 l1 a2 bt295.1)) else (notaryref32_Pairs.j0 k a0 l1 a2 t292))) = some r := h
  clear h
  replace H := Option.bind_eq_some_iff.mp H
  obtain ⟨t292, A40, H⟩ := H
  replace H : (if a0 = 50 then ((notaryref32_To.f k l1 a2).bind fun bt295 => (notaryref32_Pairs.j0 k a0 l1 a2 bt295.1)) else (notaryref32_Pairs.j0 k a0 l1 a2 t292)) = some r := H
  have A4 := Aside0.mk A40
  clear A40
  have HC5 := Aside0.mk H
  clear H
  go_enter Try.func16, Try.ntmps16
  go_upto_if 14 with ((((with_reducible refine gate_callee (f := 30) rfl ?_); refine goesL_ (some 12) rfl rfl Try.func30 (by kernel_rfl) rfl #[.int .i64 a2, .int .i64 a2] rfl (by (try simp only [List.map_toArray, List.map_cons, List.map_nil]); (rfl)) ?_; (with_reducible refine (notaryref32_Less.calls k a2 a2 t292 _ A4.out).mono ?_); rintro e w6 ⟨v293, rfl, ho0, hb⟩; refine ⟨_, rfl, ?_⟩; have n0_ := Aside0.mk (Kd.R_lower ho0 (below_size HB.out)); have n1_ := Aside0.mk (below_step HB.out hb); clear HB; have HO294 := n0_; have HB := n1_; clear n0_ n1_; (try clear hb); (try clear ho0))))
  (skip)
  go_cut [7] (fun v7 wc => ∃ (kq : Nat) (x7_4 : List Int), Aside0 (notaryref32_Pairs.j0 kq a0 l1 a2 x7_4 = some r) ∧ Aside0 (kq ≤ k) ∧ Aside0 (Kd.R (Kd.int .i64) 3 wc w.heap.size (fun _ => True) v7 x7_4) ∧ Aside0 (Below w.heap.size w wc))
  case first =>
    have H := HC5.out
    clear HC5
    by_cases c7 : a0 = 50
    rotate_left
    · rw [if_neg c7] at H
      have c7b0 : (a0 == 50) = false := beq_eq_false_iff_ne.mpr c7
      have c7b1 : (a0 != 50) = true := bne_iff_ne.mpr c7
      (rw [c7b0])
      have H' := Aside0.mk H
      clear H
      go_wp2
      go_meet
      case rel => exact ⟨_, (t292), H', ⟨by (omega)⟩, ⟨by exact HO294.out⟩, ⟨HB.out⟩⟩
    rw [if_pos c7] at H
    have c7b0 : (a0 == 50) = true := beq_iff_eq.mpr c7
    have c7b1 : (a0 != 50) = false := bne_eq_false_iff_eq.mpr c7
    clear c7
    (rw [c7b0])
    replace H := Option.bind_eq_some_iff.mp H
    obtain ⟨⟨t295, t296⟩, A80, H⟩ := H
    replace H : (notaryref32_Pairs.j0 k a0 l1 a2 t295) = some r := H
    have A8 := Aside0.mk A80
    clear A80
    have H' := Aside0.mk H
    clear H
    go_wp2_with ((((with_reducible refine gate_callee (f := 11) rfl ?_); refine goesL_ (some 18) rfl rfl Try.func11 (by kernel_rfl) rfl #[.slice A1 l1.length c1, .int .i64 a2] rfl (by (try simp only [List.map_toArray, List.map_cons, List.map_nil]); (rfl)) ?_; (with_reducible refine (notaryref32_To.calls k _ _ l1 a2 t295 t296 _ ?side1 ?side2 A8.out).mono ?_); (case side1 => exact Kd.C_below HR1.out HB.out); (case side2 => exact HC1.out); rintro e w9 ⟨v297, rfl, ho0, hb⟩; refine ⟨_, rfl, ?_⟩; have n0_ := Aside0.mk (Kd.R_elder' (by exact HO294.out) (Kd.R_base ho0) hb); have n1_ := Aside0.mk (Kd.R_lower (Kd.R_new' ho0 (Kd.R_lt (by exact HO294.out))) (below_size HB.out)); have n2_ := Aside0.mk (below_step HB.out hb); clear HO294; clear HB; have HO294 := n0_; have HO298 := n1_; have HB := n2_; clear n0_ n1_ n2_; (try clear hb); (try clear ho0))))
    go_meet
    case rel => exact ⟨_, (t295), H', ⟨by (omega)⟩, ⟨by exact Kd.R_mono HO298.out (fun _ hk => trivial)⟩, ⟨HB.out⟩⟩
  clear HC5
  obtain ⟨kq, x7_4, HA, HJ4, HO_7, HB⟩ := hcut
  rcases kq with _ | kj4
  · exact absurd HA.out (by simp [notaryref32_Pairs.j0])
  have H := HA.out
  clear HA
  simp only [notaryref32_Pairs.j0] at H
  have HC10 := Aside0.mk H
  clear H
  go_upto_region 4 with (fail)
  go_cut [27] (fun v27 wc => ∃ (kq : Nat) (x27_9 : Bool), v27 = .bool x27_9 ∧ Aside0 (notaryref32_Pairs.j1 kq l1 a2 x7_4 x27_9 = some r) ∧ Aside0 (kq ≤ kj4) ∧ Aside0 (Kd.R (Kd.int .i64) 3 wc w.heap.size (fun _ => True) u7 x7_4) ∧ Aside0 (Below w.heap.size w wc))
  case first =>
    have H := HC10.out
    clear HC10
    by_cases c11 : a0 = 51
    rotate_left
    · rw [if_neg c11] at H
      have c11b0 : (a0 == 51) = false := beq_eq_false_iff_ne.mpr c11
      have c11b1 : (a0 != 51) = true := bne_iff_ne.mpr c11
      (skip)
      have H' := Aside0.mk H
      clear H
      go_wp2
      go_meet
      case rel => exact ⟨_, (false), (by (rfl)), H', ⟨by have := HJ4.out; (omega)⟩, ⟨by exact HO_7.out⟩, ⟨HB.out⟩⟩
    rw [if_pos c11] at H
    have c11b0 : (a0 == 51) = true := beq_iff_eq.mpr c11
    have c11b1 : (a0 != 51) = false := bne_eq_false_iff_eq.mpr c11
    clear c11
    (skip)
    have H' := Aside0.mk H
    clear H
    go_wp2
    go_meet
    case rel => exact ⟨_, (((l1.length : Int) == 1)), (by (rfl)), H', ⟨by have := HJ4.out; (omega)⟩, ⟨by exact HO_7.out⟩, ⟨HB.out⟩⟩
  clear HC10
  obtain ⟨kq, x27_9, rfl, HA, HJ9, HO_7, HB⟩ := hcut
  rcases kq with _ | kj9
  · exact absurd HA.out (by simp [notaryref32_Pairs.j1])
  have H := HA.out
  clear HA
  simp only [notaryref32_Pairs.j1] at H
  have HC12 := Aside0.mk H
  clear H
  go_upto_if 27 with (fail)
  go_cut [7] (fun v7 wc => ∃ (kq : Nat) (x7_11 : List Int), Aside0 (notaryref32_Pairs.j2 kq x7_11 = some r) ∧ Aside0 (kq ≤ kj9) ∧ Aside0 (Kd.R (Kd.int .i64) 3 wc w.heap.size (fun _ => True) v7 x7_11) ∧ Aside0 (Below w.heap.size w wc))
  case first =>
    have H := HC12.out
    clear HC12
    by_cases c13 : x27_9 = true
    rotate_left
    · replace c13 := Bool.eq_false_iff.mpr c13
      subst c13
      have H1 : (notaryref32_Pairs.j2 kj9 x7_4) = some r := by rw [if_neg (show ¬ (false = true) by decide)] at H; exact H
      clear H
      have H := H1
      clear H1
      have H' := Aside0.mk H
      clear H
      go_wp2
      go_meet
      case rel => exact ⟨_, (x7_4), H', ⟨by have := HJ4.out; have := HJ9.out; (omega)⟩, ⟨by exact HO_7.out⟩, ⟨HB.out⟩⟩
    subst c13
    have H1 : (if 0 < (l1.length : Int) then ((notaryref32_Less.f kj9 (rd l1 0) a2).bind fun t300 => (notaryref32_Pairs.j2 kj9 t300)) else (none)) = some r := by rw [if_pos rfl] at H; exact H
    clear H
    have H := H1
    clear H1
    by_cases c14 : 0 < (l1.length : Int)
    rotate_left
    · rw [if_neg c14] at H
      exact absurd H (by simp)
    rw [if_pos c14] at H
    have c14b0 : decide (0 < (l1.length : Int)) = true := decide_eq_true c14
    have c14b1 : decide (0 < l1.length) = true := decide_eq_true (by omega)
    clear c14
    (skip)
    replace H := Option.bind_eq_some_iff.mp H
    obtain ⟨t300, A150, H⟩ := H
    replace H : (notaryref32_Pairs.j2 kj9 t300) = some r := H
    have A15 := Aside0.mk A150
    clear A150
    have H' := Aside0.mk H
    clear H
    have p299 : 0 ≤ (0 : Int) := (by omega)
    have q299 : 0 < (l1.length : Int) := of_decide_eq_true (by (with_reducible assumption))
    obtain ⟨ad299, e299, hx299_0⟩ := Kd.at_int HR1.out 0 p299 q299
    cases e299
    have qi299 : (0 < l1.length) = True := eq_true (by omega)
    (try rw [show (0 : Int).toNat = 0 from rfl] at hx299_0)
    (try rw [Addr.add_zero'] at hx299_0)
    replace hx299_0 := pw_cell_below HB.out hx299_0
    replace p299 := eq_true p299
    replace q299 := eq_true q299
    go_wp2_with ((((with_reducible refine gate_callee (f := 30) rfl ?_); refine goesL_ (some 32) rfl rfl Try.func30 (by kernel_rfl) rfl #[.int .i64 (rd l1 0), .int .i64 a2] rfl (by (try simp only [List.map_toArray, List.map_cons, List.map_nil]); (rfl)) ?_; (with_reducible refine (notaryref32_Less.calls kj9 (rd l1 0) a2 t300 _ A15.out).mono ?_); rintro e w16 ⟨v301, rfl, ho0, hb⟩; refine ⟨_, rfl, ?_⟩; have n0_ := Aside0.mk (Kd.R_elder' (by exact HO_7.out) (Kd.R_base ho0) hb); have n1_ := Aside0.mk (Kd.R_lower (Kd.R_new' ho0 (Kd.R_lt (by exact HO_7.out))) (below_size HB.out)); have n2_ := Aside0.mk (below_step HB.out hb); clear HO_7; clear HB; have HO_7 := n0_; have HO302 := n1_; have HB := n2_; clear n0_ n1_ n2_; (try clear hb); (try clear ho0))))
    go_meet
    case rel => exact ⟨_, (t300), H', ⟨by have := HJ4.out; have := HJ9.out; (omega)⟩, ⟨by exact Kd.R_mono HO302.out (fun _ hk => trivial)⟩, ⟨HB.out⟩⟩
  clear HC12
  obtain ⟨kq, x7_11, HA, HJ11, HO_7, HB⟩ := hcut
  rcases kq with _ | kj11
  · exact absurd HA.out (by simp [notaryref32_Pairs.j2])
  have H := HA.out
  clear HA
  simp only [notaryref32_Pairs.j2] at H
  obtain ⟨y303, hy303⟩ : ∃ y_ : List (S57), y_ = (([] : List (S57))) := ⟨_, rfl⟩
  replace H : (notaryref32_Pairs.l0 kj11 x7_11 y303 0) = some r := by (rw [hy303]; with_reducible exact H)
  have Ny303 := Aside0.mk hy303
  clear hy303
  have H' := Aside0.mk H
  clear H
  go_wp2_with ((((with_reducible refine gate_dst (N := 33) rfl ?_); (try (refine gate_guard (by rfl) ?_; dsimp only)); refine Kd.R_lit k57 _ 57 ?hg (N := 33) ?hd (xs := ([] : List (S57))) (inner := []) (ok := fun _ => True) (okp := fun _ => True) ?hr ?hp (fun _ hk => hk) trivial (Below.refl _ _) (Nat.le_refl _) (by simp) ?_; (case hd => rfl); (case hg => rfl); (case hr => (go_simp; done)); (case hp => exact (Reps.none _ _)); intro v304 w17 ho18 hb hg_ hnew_; clear hg_ hnew_; (rw [← Ny303.out] at ho18); have n0_ := Aside0.mk (Kd.R_below (by exact HO_7.out) hb); have n1_ := Aside0.mk (Kd.R_lower ho18 (below_size HB.out)); have n2_ := Aside0.mk (below_step HB.out hb); clear HO_7; clear HB; have HO_7 := n0_; have HO305 := n1_; have HB := n2_; clear n0_ n1_ n2_; clear hb ho18)))
  go_loopg [8, 9] kj11 (fun kq v8 v9 w' => ∃ (x8_4 : List (S57)) (x9_4 : Int), v9 = .int .i64 x9_4 ∧ Aside0 (notaryref32_Pairs.l0 kq x7_11 x8_4 x9_4 = some r) ∧ Aside0 (kq ≤ kj11) ∧ Aside0 (Kd.R (Kd.int .i64) 3 w' w.heap.size (fun _ => True) u7 x7_11) ∧ Aside0 (Kd.R k57 57 w' w.heap.size (fun _ => True) v8 x8_4) ∧ Aside0 (Below w.heap.size w w'))
  case atStart => exact ⟨(y303), (0), (by (rfl)), H', ⟨Nat.le_refl _⟩, ⟨by exact HO_7.out⟩, ⟨by exact HO305.out⟩, ⟨HB.out⟩⟩
  clear H'
  obtain ⟨x8_4, x9_4, rfl, HA, HK4, HO_7, HO_8, HB⟩ := hrel
  rcases gk with _ | k4
  · exact absurd HA.out (by simp [notaryref32_Pairs.l0])
  have H := HA.out
  clear HA
  simp only [notaryref32_Pairs.l0] at H
  by_cases c19 : x9_4 < (x7_11.length : Int)
  rotate_left
  · rw [if_neg c19] at H
    have c19b0 : decide (x9_4 < (x7_11.length : Int)) = false := decide_eq_false c19
    clear c19
    obtain rfl := Option.some.inj H
    obtain ⟨Ao26, co26, eo26⟩ := Kd.R_slice HO_7.out
    subst eo26
    go_wp2
    go_ret
    exact ⟨_, by (rfl), by exact HO_8.out, HB.out⟩

  rw [if_pos c19] at H
  have c19b0 : decide (x9_4 < (x7_11.length : Int)) = true := decide_eq_true c19
  clear c19
  by_cases c20 : 0 ≤ x9_4
  rotate_left
  · rw [if_neg c20] at H
    exact absurd H (by simp)
  rw [if_pos c20] at H
  have c20b0 : decide (0 ≤ x9_4) = true := decide_eq_true c20
  clear c20
  by_cases c21 : (rd x7_11 x9_4) ≥ 0
  rotate_left
  · rw [if_neg c21] at H
    have c21b0 : decide (0 ≤ (rd x7_11 x9_4)) = false := decide_eq_false c21
    clear c21
    have H' := Aside0.mk H
    clear H
    obtain ⟨Ao25, co25, eo25⟩ := Kd.R_slice HO_7.out
    subst eo25
    have p306 : 0 ≤ (x9_4 : Int) := of_decide_eq_true (by (with_reducible assumption))
    have q306 : x9_4 < (x7_11.length : Int) := of_decide_eq_true (by (with_reducible assumption))
    obtain ⟨ad306, e306, hx306_0⟩ := Kd.at_int (Kd.R_reads' HO_7.out).2.2 x9_4 p306 q306
    cases e306
    replace p306 := eq_true p306
    replace q306 := eq_true q306
    go_wp2
    go_roundg k4
    case measure => have := HJ4.out; have := HJ9.out; have := HJ11.out; have := HK4.out; omega
    case rel => exact ⟨(x8_4), (wrap64 (x9_4 + 1)), (by (rfl)), H', ⟨by have := HJ4.out; have := HJ9.out; have := HJ11.out; have := HK4.out; omega⟩, ⟨by exact HO_7.out⟩, ⟨by exact HO_8.out⟩, ⟨HB.out⟩⟩
  rw [if_pos c21] at H
  have c21b0 : decide (0 ≤ (rd x7_11 x9_4)) = true := decide_eq_true c21
  clear c21
  by_cases c22 : x8_4.length < 8796093022208
  rotate_left
  · rw [if_neg c22] at H
    exact absurd H (by simp)
  rw [if_pos c22] at H
  have LMc22 := Aside0.mk c22
  clear c22
  obtain ⟨y308, hy308⟩ : ∃ y_ : List (S57), y_ = (x8_4 ++ [(⟨x9_4, rd x7_11 x9_4⟩ : S57)]) := ⟨_, rfl⟩
  replace H : (notaryref32_Pairs.l0 k4 x7_11 y308 (wrap64 (x9_4 + 1))) = some r := by (rw [hy308]; with_reducible exact H)
  have Ny308 := Aside0.mk hy308
  clear hy308
  have H' := Aside0.mk H
  clear H
  obtain ⟨Ao23, co23, eo23⟩ := Kd.R_slice HO_7.out
  subst eo23
  have p306 : 0 ≤ (x9_4 : Int) := of_decide_eq_true (by (with_reducible assumption))
  have q306 : x9_4 < (x7_11.length : Int) := of_decide_eq_true (by (with_reducible assumption))
  obtain ⟨ad306, e306, hx306_0⟩ := Kd.at_int (Kd.R_reads' HO_7.out).2.2 x9_4 p306 q306
  cases e306
  replace p306 := eq_true p306
  replace q306 := eq_true q306
  have p307 : 0 ≤ (x9_4 : Int) := of_decide_eq_true (by (with_reducible assumption))
  have q307 : x9_4 < (x7_11.length : Int) := of_decide_eq_true (by (with_reducible assumption))
  obtain ⟨ad307, e307, hx307_0⟩ := Kd.at_int (Kd.R_reads' HO_7.out).2.2 x9_4 p307 q307
  obtain rfl : ad306 = ad307 := (by injection e307)
  replace p307 := eq_true p307
  replace q307 := eq_true q307
  go_wp2_with ((((with_reducible refine gate_builtin (b := .append) (xs := #[.tmp 45, .tmp 52]) rfl ?_); (try (refine gate_guard (by rfl) ?_; dsimp only)); at_builtin; refine Kd.R_append k57 (w0 := w) w.heap.size rfl (.tmp 45) (.tmp 52) 37 57 (.agg #[(.int .i64 0), (.int .i64 0)]) 16 rfl Try.underlying37 info57 rfl (by decide) (by omega) u8 x8_4 (⟨x9_4, rd x7_11 x9_4⟩ : S57) [.int .i64 x9_4, .int .i64 (rd x7_11 x9_4)] (fun _ => True) (fun _ => False) rfl rfl ?aP (fun _ hk => hk.elim) ?aF ?aO ?aB ?aS ?aL ?_; (case aP => exact k57_mkM _ _ _ (⟨x9_4, rd x7_11 x9_4⟩ : S57)); (case aB => exact HB.out); (case aF => exact (fun _ _ => trivial)); (case aO => exact (by exact HO_8.out)); (case aS => exact (below_size HB.out)); (case aL => have := LMc22.out; omega); intro v309 w24 ho hb hg hat; rw [← Ny308.out] at ho; have n0_ := Aside0.mk (Kd.R_over' (by exact HO_7.out) (Kd.R_typed (by exact HO_8.out)) (by decide) hg); have n1_ := Aside0.mk (hb); have n2_ := Aside0.mk (ho); clear HO_7; clear HB; clear HO_8; have HO_7 := n0_; have HB := n1_; have HO310 := n2_; clear n0_ n1_ n2_; clear ho hb hg hat)))
  go_roundg k4
  case measure => have := HJ4.out; have := HJ9.out; have := HJ11.out; have := HK4.out; omega
  case rel => exact ⟨(y308), (wrap64 (x9_4 + 1)), (by (rfl)), H', ⟨by have := HJ4.out; have := HJ9.out; have := HJ11.out; have := HK4.out; omega⟩, ⟨by exact HO_7.out⟩, ⟨by exact HO310.out⟩, ⟨HB.out⟩⟩
end Go.Proofs.Ytgjmidpoebnieaa.PDm
