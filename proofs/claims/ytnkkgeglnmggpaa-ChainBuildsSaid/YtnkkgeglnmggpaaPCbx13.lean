-- SLIM: a printed text of which the unused ways are cut off
-- PRINTED by print.py (a twelfth state) out of the translation. Not trusted: Lean checks it.
import Derived.Test.YtnkkgeglnmggpaaPCbx0
import Derived.Test.YtnkkgeglnmggpaaPCbx5
import Derived.Test.YtnkkgeglnmggpaaPCbx6
import Derived.Test.YtnkkgeglnmggpaaPCbx7
import Derived.Test.YtnkkgeglnmggpaaPCbx12
namespace Go.Proofs.Ytnkkgeglnmggpaa.PCb
open Go.RowKit Go.Proofs.YtnkkgeglnmggpaaW.PrintWords Go.Proofs.YtnkkgeglnmggpaaW.PrintLast Go.Proofs.YtnkkgeglnmggpaaW.PrintMore
attribute [local go_sem] max2_int min2_int max_two min_two max_three min_three max_four min_four   -- for this text's walks alone
set_option linter.unusedVariables false
set_option linter.unusedSimpArgs false

/-! ### notaryref47_Build: function 22 -/
def notaryref47_Build.l0 : Nat → List Int → List (S42) → List Int → List Int → Int → Option (List Int × List Int × Int)
  | 0, _, _, _, _, _ => none
  | k + 1, x0, x1, x7, x8, x9 => if x9 < (x1.length : Int) then (if 0 ≤ x9 then ((notaryref46_Payload.f k ((rd_T42 x1 x9).f0) ((rd_T42 x1 x9).f1)).bind fun bt435 => (if bt435.2 = 0 then ((notaryref47_Next.f k x0 x8 (wrap64 (x9 + 1)) ((rd_T42 x1 x9).f0) ((rd_T42 x1 x9).f1)).bind fun t440 => ((notaryref46_Frame.f k ((rd_T42 x1 x9).f0) ((rd_T42 x1 x9).f1) t440).bind fun bt444 => (if x7.length + bt444.1.length < 140737488355328 then (notaryref47_Build.l0 k x0 x1 (x7 ++ bt444.1) t440 (wrap64 (x9 + 1))) else (none)))) else (some (([] : List Int), ([] : List Int), bt435.2)))) else (none)) else (some (x7, x8, 0))
def notaryref47_Build.f (k : Nat) (l0 : List Int) (l1 : List (S42)) : Option (List Int × List Int × Int) := (notaryref47_First.f).bind fun t431 => (notaryref47_Build.l0 k l0 l1 ([] : List Int) t431 0)
theorem notaryref47_Build.mono_l : ∀ k, (∀ y0 y1 y2 y3 y4, LeO (notaryref47_Build.l0 k y0 y1 y2 y3 y4) (notaryref47_Build.l0 (k + 1) y0 y1 y2 y3 y4))
  | 0 => fun _ _ _ _ _ r h => by simp [notaryref47_Build.l0] at h
  | k + 1 => by
    have ih0 := notaryref47_Build.mono_l k
    · intro y0 y1 y2 y3 y4
      unfold notaryref47_Build.l0
      repeat' first | (with_reducible exact ih0 _ _ _ _ _) | (with_reducible exact notaryref46_Frame.mono _ _ _ _) | (with_reducible exact notaryref46_Payload.mono _ _ _) | (with_reducible exact notaryref47_Next.mono _ _ _ _ _ _) | (with_reducible exact LeO.refl _) | (with_reducible refine LeO.ite ?_ ?_) | (with_reducible refine LeO.bind ?_ (fun _ => ?_))
theorem notaryref47_Build.mono : ∀ a0 a1 k, LeO (notaryref47_Build.f k a0 a1) (notaryref47_Build.f (k + 1) a0 a1) := by
  intro a0 a1 k
  have ih0 := notaryref47_Build.mono_l k
  unfold notaryref47_Build.f
  repeat' first | (with_reducible exact ih0 _ _ _ _ _) | (with_reducible exact LeO.refl _) | (with_reducible refine LeO.bind ?_ (fun _ => ?_))
set_option maxHeartbeats 8000000 in
set_option maxRecDepth 100000 in
theorem notaryref47_Build.calls (k : Nat) (A0 : Option Addr) (c0 : Nat) (l0 : List Int) (A1 : Option Addr) (c1 : Nat) (l1 : List (S42)) (r1 : List Int) (r2 : List Int) (r3 : Int) (w : World) (hr0 : Kd.C (Kd.int .u8) w A0 l0.length l0) (hc0 : l0.length ≤ c0) (hr1 : Kd.C k42 w A1 l1.length l1) (hc1 : l1.length ≤ c1) (h : notaryref47_Build.f k l0 l1 = some (r1, r2, r3)) :
    Calls Try.prog 22 #[.slice A0 l0.length c0, .slice A1 l1.length c1] w fun e w' => ∃ v0_ v1_ : Value, e = .returned (.tuple #[v0_, v1_, .int .i64 r3]) ∧ Kd.R (Kd.int .u8) 5 w' w.heap.size (fun k_ => some k_ ≠ (v1_ : Value).ownBlock) v0_ r1 ∧ Kd.R (Kd.int .u8) 5 w' w.heap.size (fun k_ => some k_ ≠ (v0_ : Value).ownBlock) v1_ r2 ∧ Below w.heap.size w w' := by
  have hu42 := Try.underlying42
  have HR0 := Aside0.mk hr0
  have HC0 := Aside0.mk hc0
  clear hr0 hc0
  have HR1 := Aside0.mk hr1
  have HC1 := Aside0.mk hc1
  clear hr1 hc1
  have HB := Aside0.mk (Below.refl w.heap.size w)
  have H : ((notaryref47_First.f).bind fun t431 => (notaryref47_Build.l0 k l0 l1 ([] : List Int) t431 0)) = some (r1, r2, r3) := h
  clear h
  obtain ⟨y428, hy428⟩ : ∃ y_ : List Int, y_ = ([] : List Int) := ⟨_, rfl⟩
  replace H : ((notaryref47_First.f).bind fun t431 => (notaryref47_Build.l0 k l0 l1 y428 t431 0)) = some (r1, r2, r3) := by (rw [hy428]; with_reducible exact H)
  have Ny428 := Aside0.mk hy428
  clear hy428
  replace H := Option.bind_eq_some_iff.mp H
  obtain ⟨t431, A30, H⟩ := H
  replace H : (notaryref47_Build.l0 k l0 l1 y428 t431 0) = some (r1, r2, r3) := H
  have A3 := Aside0.mk A30
  clear A30
  have H' := Aside0.mk H
  clear H
  go_enter Try.func22, Try.ntmps22
  go_wp2_with (first | ((with_reducible refine gate_dst (N := 14) rfl ?_); refine Kd.R_lit (Kd.int .u8) _ 5 ?hg (N := 14) ?hd (xs := ([] : List Int)) (inner := []) (ok := fun _ => True) (okp := fun _ => True) ?hr ?hp (fun _ hk => hk) trivial (Below.refl _ _) (Nat.le_refl _) (by simp) ?_; (case hd => rfl); (case hg => rfl); (case hr => (go_simp; done)); (case hp => exact (Reps.none _ _)); intro v429 w4 ho5 hb hg_ hnew_; clear hg_ hnew_; (rw [← Ny428.out] at ho5); have n0_ := Aside0.mk (Kd.R_lower ho5 (below_size HB.out)); have n1_ := Aside0.mk (below_step HB.out hb); clear HB; have HO430 := n0_; have HB := n1_; clear n0_ n1_; clear hb ho5) | ((with_reducible refine gate_callee (f := 19) rfl ?_); refine goesL_ (some 15) rfl rfl Try.func19 (by kernel_rfl) rfl #[] rfl (by (try simp only [List.map_toArray, List.map_cons, List.map_nil]); (done)) ?_; (with_reducible refine (notaryref47_First.calls  t431 _ A3.out).mono ?_); rintro e w6 ⟨v432, rfl, ho0, hb⟩; refine ⟨_, rfl, ?_⟩; have n0_ := Aside0.mk (Kd.R_elder' (by exact HO430.out) (Kd.R_base ho0) hb); have n1_ := Aside0.mk (Kd.R_lower (Kd.R_new' ho0 (Kd.R_lt (by exact HO430.out))) (below_size HB.out)); have n2_ := Aside0.mk (below_step HB.out hb); clear HO430; clear HB; have HO430 := n0_; have HO433 := n1_; have HB := n2_; clear n0_ n1_ n2_; (try clear hb); (try clear ho0)))
  go_loopg [7, 8, 9] k (fun kq v7 v8 v9 w' => ∃ (x7_1 : List Int) (x8_1 : List Int) (x9_1 : Int), v9 = .int .i64 x9_1 ∧ Aside0 (notaryref47_Build.l0 kq l0 l1 x7_1 x8_1 x9_1 = some (r1, r2, r3)) ∧ Aside0 (kq ≤ k) ∧ Aside0 (Kd.R (Kd.int .u8) 5 w' w.heap.size (fun k_ => some k_ ≠ (v8 : Value).ownBlock) v7 x7_1) ∧ Aside0 (Kd.R (Kd.int .u8) 5 w' w.heap.size (fun k_ => some k_ ≠ (v7 : Value).ownBlock) v8 x8_1) ∧ Aside0 (Below w.heap.size w w'))
  case atStart => exact ⟨(y428), (t431), (0), (by (rfl)), H', ⟨Nat.le_refl _⟩, ⟨by exact Kd.R_mono HO430.out (fun _ hk => hk.2)⟩, ⟨by exact Kd.R_mono HO433.out (fun _ hk => hk.2)⟩, ⟨HB.out⟩⟩
  clear H'
  obtain ⟨x7_1, x8_1, x9_1, rfl, HA, HK1, HO_7, HO_8, HB⟩ := hrel
  rcases gk with _ | k1
  · exact absurd HA.out (by simp [notaryref47_Build.l0])
  have H := HA.out
  clear HA
  simp only [notaryref47_Build.l0] at H
  by_cases c7 : x9_1 < (l1.length : Int)
  rotate_left
  · rw [if_neg c7] at H
    have c7b0 : decide (x9_1 < (l1.length : Int)) = false := decide_eq_false c7
    clear c7
    simp only [Option.some.injEq, Prod.mk.injEq] at H
    obtain ⟨rfl, rfl, rfl⟩ := H
    go_wp2
    go_ret3
    exact ⟨_, _, by (rfl), by exact HO_7.out, by exact HO_8.out, HB.out⟩

  rw [if_pos c7] at H
  have c7b0 : decide (x9_1 < (l1.length : Int)) = true := decide_eq_true c7
  clear c7
  by_cases c8 : 0 ≤ x9_1
  rotate_left
  · rw [if_neg c8] at H
    exact absurd H (by simp)
  rw [if_pos c8] at H
  have c8b0 : decide (0 ≤ x9_1) = true := decide_eq_true c8
  clear c8
  replace H := Option.bind_eq_some_iff.mp H
  obtain ⟨⟨t435, t438⟩, A90, H⟩ := H
  replace H : (if t438 = 0 then ((notaryref47_Next.f k1 l0 x8_1 (wrap64 (x9_1 + 1)) ((rd_T42 l1 x9_1).f0) ((rd_T42 l1 x9_1).f1)).bind fun t440 => ((notaryref46_Frame.f k1 ((rd_T42 l1 x9_1).f0) ((rd_T42 l1 x9_1).f1) t440).bind fun bt444 => (if x7_1.length + bt444.1.length < 140737488355328 then (notaryref47_Build.l0 k1 l0 l1 (x7_1 ++ bt444.1) t440 (wrap64 (x9_1 + 1))) else (none)))) else (some (([] : List Int), ([] : List Int), t438))) = some (r1, r2, r3) := H
  have A9 := Aside0.mk A90
  clear A90
  by_cases c10 : t438 = 0
  rotate_left
  · rw [if_neg c10] at H
    have c10b0 : (t438 == 0) = false := beq_eq_false_iff_ne.mpr c10
    have c10b1 : (t438 != 0) = true := bne_iff_ne.mpr c10
    obtain ⟨y451, hy451⟩ : ∃ y_ : List Int, y_ = ([] : List Int) := ⟨_, rfl⟩
    replace H : (some (y451, ([] : List Int), t438)) = some (r1, r2, r3) := by (rw [hy451]; with_reducible exact H)
    have Ny451 := Aside0.mk hy451
    clear hy451
    obtain ⟨y454, hy454⟩ : ∃ y_ : List Int, y_ = ([] : List Int) := ⟨_, rfl⟩
    replace H : (some (y451, y454, t438)) = some (r1, r2, r3) := by (rw [hy454]; with_reducible exact H)
    have Ny454 := Aside0.mk hy454
    clear hy454
    simp only [Option.some.injEq, Prod.mk.injEq] at H
    obtain ⟨rfl, rfl, rfl⟩ := H
    have p434 : 0 ≤ (x9_1 : Int) := of_decide_eq_true (by (with_reducible assumption))
    have q434 : x9_1 < (l1.length : Int) := of_decide_eq_true (by (with_reducible assumption))
    obtain ⟨ad434, A434_1, c434_1, e434, hx434_0, hx434_1, hl434_1, hi434_1⟩ := at_T42 HR1.out x9_1 p434 q434
    cases e434
    replace hx434_0 := pw_cell_below HB.out hx434_0
    replace hx434_1 := pw_cell_below HB.out hx434_1
    have HR434_1 := Aside0.mk hi434_1
    have HC434_1 := Aside0.mk hl434_1
    clear hi434_1 hl434_1
    replace p434 := eq_true p434
    replace q434 := eq_true q434
    go_wp2_with (first | ((with_reducible refine gate_callee (f := 40) rfl ?_); refine goesL_ (some 27) rfl rfl Try.func40 (by kernel_rfl) rfl #[.agg #[.int .i64 ((rd_T42 l1 x9_1).f0), .slice A434_1 ((rd_T42 l1 x9_1).f1).length c434_1]] rfl (by (try simp only [List.map_toArray, List.map_cons, List.map_nil]); (rfl)) ?_; (with_reducible refine (notaryref46_Payload.calls k1 ((rd_T42 l1 x9_1).f0) _ _ ((rd_T42 l1 x9_1).f1) t435 t438 _ ?side1 ?side2 A9.out).mono ?_); (case side1 => exact Kd.C_below HR434_1.out HB.out); (case side2 => exact HC434_1.out); rintro e w21 ⟨v436, rfl, ho0, hb⟩; refine ⟨_, rfl, ?_⟩; have n0_ := Aside0.mk (Kd.R_elder' (by exact HO_7.out) (Kd.R_base ho0) hb); have n1_ := Aside0.mk (Kd.R_elder' (by exact HO_8.out) (Kd.R_base ho0) hb); have n2_ := Aside0.mk (Kd.R_lower (Kd.R_new' (Kd.R_new' ho0 (Kd.R_lt (by exact HO_7.out))) (Kd.R_lt (by exact HO_8.out))) (below_size HB.out)); have n3_ := Aside0.mk (below_step HB.out hb); clear HO_7; clear HO_8; clear HB; have HO_7 := n0_; have HO_8 := n1_; have HO437 := n2_; have HB := n3_; clear n0_ n1_ n2_ n3_; (try clear hb); (try clear ho0)) | ((with_reducible refine gate_dst (N := 32) rfl ?_); refine Kd.R_lit (Kd.int .u8) _ 5 ?hg (N := 32) ?hd (xs := ([] : List Int)) (inner := []) (ok := fun _ => True) (okp := fun _ => True) ?hr ?hp (fun _ hk => hk) trivial (Below.refl _ _) (Nat.le_refl _) (by simp) ?_; (case hd => rfl); (case hg => rfl); (case hr => (go_simp; done)); (case hp => exact (Reps.none _ _)); intro v452 w22 ho23 hb hg_ hnew_; clear hg_ hnew_; (rw [← Ny451.out] at ho23); have n0_ := Aside0.mk (Kd.R_elder' (by exact HO_7.out) (Kd.R_base ho23) hb); have n1_ := Aside0.mk (Kd.R_elder' (by exact HO_8.out) (Kd.R_base ho23) hb); have n2_ := Aside0.mk (Kd.R_elder' (by exact HO437.out) (Kd.R_base ho23) hb); have n3_ := Aside0.mk (Kd.R_lower (Kd.R_new' (Kd.R_new' (Kd.R_new' ho23 (Kd.R_lt (by exact HO_7.out))) (Kd.R_lt (by exact HO_8.out))) (Kd.R_lt (by exact HO437.out))) (below_size HB.out)); have n4_ := Aside0.mk (below_step HB.out hb); clear HO_7; clear HO_8; clear HO437; clear HB; have HO_7 := n0_; have HO_8 := n1_; have HO437 := n2_; have HO453 := n3_; have HB := n4_; clear n0_ n1_ n2_ n3_ n4_; clear hb ho23) | ((with_reducible refine gate_dst (N := 33) rfl ?_); refine Kd.R_lit (Kd.int .u8) _ 5 ?hg (N := 33) ?hd (xs := ([] : List Int)) (inner := []) (ok := fun _ => True) (okp := fun _ => True) ?hr ?hp (fun _ hk => hk) trivial (Below.refl _ _) (Nat.le_refl _) (by simp) ?_; (case hd => rfl); (case hg => rfl); (case hr => (go_simp; done)); (case hp => exact (Reps.none _ _)); intro v455 w24 ho25 hb hg_ hnew_; clear hg_ hnew_; (rw [← Ny454.out] at ho25); have n0_ := Aside0.mk (Kd.R_elder' (by exact HO_7.out) (Kd.R_base ho25) hb); have n1_ := Aside0.mk (Kd.R_elder' (by exact HO_8.out) (Kd.R_base ho25) hb); have n2_ := Aside0.mk (Kd.R_elder' (by exact HO437.out) (Kd.R_base ho25) hb); have n3_ := Aside0.mk (Kd.R_elder' (by exact HO453.out) (Kd.R_base ho25) hb); have n4_ := Aside0.mk (Kd.R_lower (Kd.R_new' (Kd.R_new' (Kd.R_new' (Kd.R_new' ho25 (Kd.R_lt (by exact HO_7.out))) (Kd.R_lt (by exact HO_8.out))) (Kd.R_lt (by exact HO437.out))) (Kd.R_lt (by exact HO453.out))) (below_size HB.out)); have n5_ := Aside0.mk (below_step HB.out hb); clear HO_7; clear HO_8; clear HO437; clear HO453; clear HB; have HO_7 := n0_; have HO_8 := n1_; have HO437 := n2_; have HO453 := n3_; have HO456 := n4_; have HB := n5_; clear n0_ n1_ n2_ n3_ n4_ n5_; clear hb ho25))
    go_ret3
    exact ⟨_, _, by (rfl), by exact Kd.R_mono HO453.out (fun _ hk => hk.2), by exact Kd.R_mono HO456.out (fun _ hk => hk.2), HB.out⟩
  rw [if_pos c10] at H
  have c10b0 : (t438 == 0) = true := beq_iff_eq.mpr c10
  have c10b1 : (t438 != 0) = false := bne_eq_false_iff_eq.mpr c10
  clear c10
  replace H := Option.bind_eq_some_iff.mp H
  obtain ⟨t440, A110, H⟩ := H
  replace H : ((notaryref46_Frame.f k1 ((rd_T42 l1 x9_1).f0) ((rd_T42 l1 x9_1).f1) t440).bind fun bt444 => (if x7_1.length + bt444.1.length < 140737488355328 then (notaryref47_Build.l0 k1 l0 l1 (x7_1 ++ bt444.1) t440 (wrap64 (x9_1 + 1))) else (none))) = some (r1, r2, r3) := H
  have A11 := Aside0.mk A110
  clear A110
  replace H := Option.bind_eq_some_iff.mp H
  obtain ⟨⟨t444, t447⟩, A120, H⟩ := H
  replace H : (if x7_1.length + t444.length < 140737488355328 then (notaryref47_Build.l0 k1 l0 l1 (x7_1 ++ t444) t440 (wrap64 (x9_1 + 1))) else (none)) = some (r1, r2, r3) := H
  have A12 := Aside0.mk A120
  clear A120
  by_cases c13 : x7_1.length + t444.length < 140737488355328
  rotate_left
  · rw [if_neg c13] at H
    exact absurd H (by simp)
  rw [if_pos c13] at H
  have LMc13 := Aside0.mk c13
  clear c13
  obtain ⟨y448, hy448⟩ : ∃ y_ : List Int, y_ = (x7_1 ++ t444) := ⟨_, rfl⟩
  replace H : (notaryref47_Build.l0 k1 l0 l1 y448 t440 (wrap64 (x9_1 + 1))) = some (r1, r2, r3) := by (rw [hy448]; with_reducible exact H)
  have Ny448 := Aside0.mk hy448
  clear hy448
  have H' := Aside0.mk H
  clear H
  have p434 : 0 ≤ (x9_1 : Int) := of_decide_eq_true (by (with_reducible assumption))
  have q434 : x9_1 < (l1.length : Int) := of_decide_eq_true (by (with_reducible assumption))
  obtain ⟨ad434, A434_1, c434_1, e434, hx434_0, hx434_1, hl434_1, hi434_1⟩ := at_T42 HR1.out x9_1 p434 q434
  cases e434
  replace hx434_0 := pw_cell_below HB.out hx434_0
  replace hx434_1 := pw_cell_below HB.out hx434_1
  have HR434_1 := Aside0.mk hi434_1
  have HC434_1 := Aside0.mk hl434_1
  clear hi434_1 hl434_1
  replace p434 := eq_true p434
  replace q434 := eq_true q434
  go_wp2_with (first | ((with_reducible refine gate_callee (f := 40) rfl ?_); refine goesL_ (some 27) rfl rfl Try.func40 (by kernel_rfl) rfl #[.agg #[.int .i64 ((rd_T42 l1 x9_1).f0), .slice A434_1 ((rd_T42 l1 x9_1).f1).length c434_1]] rfl (by (try simp only [List.map_toArray, List.map_cons, List.map_nil]); (rfl)) ?_; (with_reducible refine (notaryref46_Payload.calls k1 ((rd_T42 l1 x9_1).f0) _ _ ((rd_T42 l1 x9_1).f1) t435 t438 _ ?side1 ?side2 A9.out).mono ?_); (case side1 => exact Kd.C_below HR434_1.out HB.out); (case side2 => exact HC434_1.out); rintro e w14 ⟨v436, rfl, ho0, hb⟩; refine ⟨_, rfl, ?_⟩; have n0_ := Aside0.mk (Kd.R_elder' (by exact HO_7.out) (Kd.R_base ho0) hb); have n1_ := Aside0.mk (Kd.R_elder' (by exact HO_8.out) (Kd.R_base ho0) hb); have n2_ := Aside0.mk (Kd.R_lower (Kd.R_new' (Kd.R_new' ho0 (Kd.R_lt (by exact HO_7.out))) (Kd.R_lt (by exact HO_8.out))) (below_size HB.out)); have n3_ := Aside0.mk (below_step HB.out hb); clear HO_7; clear HO_8; clear HB; have HO_7 := n0_; have HO_8 := n1_; have HO437 := n2_; have HB := n3_; clear n0_ n1_ n2_ n3_; (try clear hb); (try clear ho0); have p439 : 0 ≤ (x9_1 : Int) := of_decide_eq_true (by (with_reducible assumption)); have q439 : x9_1 < (l1.length : Int) := of_decide_eq_true (by (with_reducible assumption)); obtain ⟨ad439, A439_1, c439_1, e439, hx439_0, hx439_1, hl439_1, hi439_1⟩ := at_T42 HR1.out x9_1 p439 q439; obtain rfl : ad434 = ad439 := (by injection e439); replace hx439_0 := pw_cell_below HB.out hx439_0; replace hx439_1 := pw_cell_below HB.out hx439_1; have HR439_1 := Aside0.mk hi439_1; have HC439_1 := Aside0.mk hl439_1; clear hi439_1 hl439_1; replace p439 := eq_true p439; replace q439 := eq_true q439; obtain ⟨Ao15, co15, eo15⟩ := Kd.R_slice HO_8.out; subst eo15) | ((with_reducible refine gate_callee (f := 42) rfl ?_); refine goesL_ (some 43) rfl rfl Try.func42 (by kernel_rfl) rfl #[.slice A0 l0.length c0, .slice Ao15 x8_1.length co15, .int .i64 (wrap64 (x9_1 + 1)), .agg #[.int .i64 ((rd_T42 l1 x9_1).f0), .slice A439_1 ((rd_T42 l1 x9_1).f1).length c439_1]] rfl (by (try simp only [List.map_toArray, List.map_cons, List.map_nil]); (rfl)) ?_; (with_reducible refine (notaryref47_Next.calls k1 _ _ l0 _ _ x8_1 (wrap64 (x9_1 + 1)) ((rd_T42 l1 x9_1).f0) _ _ ((rd_T42 l1 x9_1).f1) t440 _ ?side1 ?side2 ?side3 ?side4 ?side5 ?side6 A11.out).mono ?_); (case side1 => exact Kd.C_below HR0.out HB.out); (case side2 => exact HC0.out); (case side3 => repeat ((exact (Kd.R_reads' HO_8.out).2.2))); (case side4 => exact (Kd.R_reads' HO_8.out).2.1); (case side5 => exact Kd.C_below HR439_1.out HB.out); (case side6 => exact HC439_1.out); rintro e w16 ⟨v441, rfl, ho0, hb⟩; refine ⟨_, rfl, ?_⟩; have n0_ := Aside0.mk (Kd.R_elder' (by exact HO_7.out) (Kd.R_base ho0) hb); have n1_ := Aside0.mk (Kd.R_elder' (by exact HO_8.out) (Kd.R_base ho0) hb); have n2_ := Aside0.mk (Kd.R_elder' (by exact HO437.out) (Kd.R_base ho0) hb); have n3_ := Aside0.mk (Kd.R_lower (Kd.R_new' (Kd.R_new' (Kd.R_new' ho0 (Kd.R_lt (by exact HO_7.out))) (Kd.R_lt (by exact HO_8.out))) (Kd.R_lt (by exact HO437.out))) (below_size HB.out)); have n4_ := Aside0.mk (below_step HB.out hb); clear HO_7; clear HO_8; clear HO437; clear HB; have HO_7 := n0_; have HO_8 := n1_; have HO437 := n2_; have HO442 := n3_; have HB := n4_; clear n0_ n1_ n2_ n3_ n4_; (try clear hb); (try clear ho0); have p443 : 0 ≤ (x9_1 : Int) := of_decide_eq_true (by (with_reducible assumption)); have q443 : x9_1 < (l1.length : Int) := of_decide_eq_true (by (with_reducible assumption)); obtain ⟨ad443, A443_1, c443_1, e443, hx443_0, hx443_1, hl443_1, hi443_1⟩ := at_T42 HR1.out x9_1 p443 q443; obtain rfl : ad434 = ad443 := (by injection e443); replace hx443_0 := pw_cell_below HB.out hx443_0; replace hx443_1 := pw_cell_below HB.out hx443_1; have HR443_1 := Aside0.mk hi443_1; have HC443_1 := Aside0.mk hl443_1; clear hi443_1 hl443_1; replace p443 := eq_true p443; replace q443 := eq_true q443; obtain ⟨Ao17, co17, eo17⟩ := Kd.R_slice HO442.out; subst eo17) | ((with_reducible refine gate_callee (f := 39) rfl ?_); refine goesL_ (some 50) rfl rfl Try.func39 (by kernel_rfl) rfl #[.agg #[.int .i64 ((rd_T42 l1 x9_1).f0), .slice A443_1 ((rd_T42 l1 x9_1).f1).length c443_1], .slice Ao17 t440.length co17] rfl (by (try simp only [List.map_toArray, List.map_cons, List.map_nil]); (rfl)) ?_; (with_reducible refine (notaryref46_Frame.calls k1 ((rd_T42 l1 x9_1).f0) _ _ ((rd_T42 l1 x9_1).f1) _ _ t440 t444 t447 _ ?side1 ?side2 ?side3 ?side4 A12.out).mono ?_); (case side1 => exact Kd.C_below HR443_1.out HB.out); (case side2 => exact HC443_1.out); (case side3 => repeat ((exact (Kd.R_reads' HO442.out).2.2))); (case side4 => exact (Kd.R_reads' HO442.out).2.1); rintro e w18 ⟨v445, rfl, ho0, hb⟩; refine ⟨_, rfl, ?_⟩; have n0_ := Aside0.mk (Kd.R_elder' (by exact HO_7.out) (Kd.R_base ho0) hb); have n1_ := Aside0.mk (Kd.R_elder' (by exact HO_8.out) (Kd.R_base ho0) hb); have n2_ := Aside0.mk (Kd.R_elder' (by exact HO437.out) (Kd.R_base ho0) hb); have n3_ := Aside0.mk (Kd.R_elder' (by exact HO442.out) (Kd.R_base ho0) hb); have n4_ := Aside0.mk (Kd.R_lower (Kd.R_new' (Kd.R_new' (Kd.R_new' (Kd.R_new' ho0 (Kd.R_lt (by exact HO_7.out))) (Kd.R_lt (by exact HO_8.out))) (Kd.R_lt (by exact HO437.out))) (Kd.R_lt (by exact HO442.out))) (below_size HB.out)); have n5_ := Aside0.mk (below_step HB.out hb); clear HO_7; clear HO_8; clear HO437; clear HO442; clear HB; have HO_7 := n0_; have HO_8 := n1_; have HO437 := n2_; have HO442 := n3_; have HO446 := n4_; have HB := n5_; clear n0_ n1_ n2_ n3_ n4_ n5_; (try clear hb); (try clear ho0); obtain ⟨Ao20, co20, eo20⟩ := Kd.R_slice HO446.out; subst eo20) | ((with_reducible refine gate_builtin (b := .append) (xs := #[.tmp 53, .tmp 54]) rfl ?_); at_builtin; refine Kd.R_append_rows (Kd.int .u8) (w0 := w) w.heap.size rfl (.tmp 53) (.tmp 54) 22 5 (.int .u8 0) 1 rfl Try.underlying22 info5 rfl (by decide) (by omega) u7 x7_1 t444 _ _ _ (fun k_ => some k_ ≠ (.slice Ao15 x8_1.length co15 : Value).ownBlock ∧ some k_ ≠ (v436 : Value).ownBlock ∧ some k_ ≠ (.slice Ao17 t440.length co17 : Value).ownBlock ∧ some k_ ≠ (.slice Ao20 t444.length co20 : Value).ownBlock) (fun _ => False) rfl rfl ?aO ?aR (fun _ _ h => h) (fun _ h => h.elim) ?aF ?aB ?aS ?aL ?_; (case aR => repeat ((exact (Kd.R_reads' HO446.out).2.2))); (case aB => exact HB.out); (case aF => exact (fun k_ hk => ⟨Kd.fresh' (Kd.R_lt (by exact HO_8.out)) k_ hk, Kd.fresh' (Kd.R_lt (by exact HO437.out)) k_ hk, Kd.fresh' (Kd.R_lt (by exact HO442.out)) k_ hk, Kd.fresh' (Kd.R_lt (by exact HO446.out)) k_ hk⟩)); (case aO => exact (by exact Kd.R_mono HO_7.out (fun _ hk => ⟨hk.1.1.1, ⟨hk.1.1.2, ⟨hk.1.2, hk.2⟩⟩⟩))); (case aS => exact (below_size HB.out)); (case aL => have := LMc13.out; omega); intro v449 w19 ho hb hg hat; rw [← Ny448.out] at ho; have n0_ := Aside0.mk (Kd.R_after (ok := (fun k_ => some k_ ≠ (v436 : Value).ownBlock ∧ some k_ ≠ (.slice Ao17 t440.length co17 : Value).ownBlock ∧ some k_ ≠ (.slice Ao20 t444.length co20 : Value).ownBlock)) (by exact Kd.R_mono HO_8.out (fun _ hk => ⟨⟨hk.1.1.2, ⟨hk.1.2, hk.2⟩⟩, hk.1.1.1⟩)) hg hat); have n1_ := Aside0.mk (Kd.R_after (ok := (fun k_ => some k_ ≠ (.slice Ao15 x8_1.length co15 : Value).ownBlock ∧ some k_ ≠ (.slice Ao17 t440.length co17 : Value).ownBlock ∧ some k_ ≠ (.slice Ao20 t444.length co20 : Value).ownBlock)) (by exact Kd.R_mono HO437.out (fun _ hk => ⟨⟨hk.1.1.2, ⟨hk.1.2, hk.2⟩⟩, hk.1.1.1.2⟩)) hg hat); have n2_ := Aside0.mk (Kd.R_after (ok := (fun k_ => some k_ ≠ (.slice Ao15 x8_1.length co15 : Value).ownBlock ∧ some k_ ≠ (v436 : Value).ownBlock ∧ some k_ ≠ (.slice Ao20 t444.length co20 : Value).ownBlock)) (by exact Kd.R_mono HO442.out (fun _ hk => ⟨⟨hk.1.1.2, ⟨hk.1.2, hk.2⟩⟩, hk.1.1.1.2⟩)) hg hat); have n3_ := Aside0.mk (Kd.R_after (ok := (fun k_ => some k_ ≠ (.slice Ao15 x8_1.length co15 : Value).ownBlock ∧ some k_ ≠ (v436 : Value).ownBlock ∧ some k_ ≠ (.slice Ao17 t440.length co17 : Value).ownBlock)) (by exact Kd.R_mono HO446.out (fun _ hk => ⟨⟨hk.1.1.2, ⟨hk.1.2, hk.2⟩⟩, hk.1.1.1.2⟩)) hg hat); have n4_ := Aside0.mk (hb); have n5_ := Aside0.mk (ho); clear HO_8; clear HO437; clear HO442; clear HO446; clear HB; clear HO_7; have HO_8 := n0_; have HO437 := n1_; have HO442 := n2_; have HO446 := n3_; have HB := n4_; have HO450 := n5_; clear n0_ n1_ n2_ n3_ n4_ n5_; clear ho hb hg hat))
  go_roundg k1
  case measure => have := HK1.out; omega
  case rel => exact ⟨(y448), (t440), (wrap64 (x9_1 + 1)), (by (rfl)), H', ⟨by have := HK1.out; omega⟩, ⟨by exact Kd.R_mono HO450.out (fun _ hk => hk.2.2.1)⟩, ⟨by exact Kd.R_mono HO442.out (fun _ hk => hk.2)⟩, ⟨HB.out⟩⟩
end Go.Proofs.Ytnkkgeglnmggpaa.PCb
