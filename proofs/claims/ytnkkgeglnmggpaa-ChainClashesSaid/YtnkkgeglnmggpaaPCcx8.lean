-- SLIM: a printed text of which the unused ways are cut off
-- PRINTED by print.py (a twelfth state) out of the translation. Not trusted: Lean checks it.
import Derived.Test.YtnkkgeglnmggpaaPCcx0
import Derived.Test.YtnkkgeglnmggpaaPCcx5
import Derived.Test.YtnkkgeglnmggpaaPCcx7
namespace Go.Proofs.Ytnkkgeglnmggpaa.PCc
open Go.RowKit Go.Proofs.YtnkkgeglnmggpaaW.PrintWords Go.Proofs.YtnkkgeglnmggpaaW.PrintLast Go.Proofs.YtnkkgeglnmggpaaW.PrintMore
attribute [local go_sem] max2_int min2_int max_two min_two max_three min_three max_four min_four   -- for this text's walks alone
set_option linter.unusedVariables false
set_option linter.unusedSimpArgs false

/-! ### notaryref47_Clash: function 15 -/
mutual
def notaryref47_Clash.j0 : Nat → List (S42) → List (List Int) → List (S42) → List (List Int) → Bool → Option (List Int × List Int × Bool)
  | 0, _, _, _, _, _ => none
  | k + 1, x7, x8, x10, x11, x38 => if x38 = true then (some (([] : List Int), ([] : List Int), false)) else (notaryref47_Clash.l0 k x7 x8 x10 x11 (wrap64 ((x7.length : Int) - 1)))
def notaryref47_Clash.l0 : Nat → List (S42) → List (List Int) → List (S42) → List (List Int) → Int → Option (List Int × List Int × Bool)
  | 0, _, _, _, _, _ => none
  | k + 1, x7, x8, x10, x11, x13 => if x13 ≥ 0 then (if 0 ≤ x13 then (if x13 < (x8.length : Int) then (if x13 < (x11.length : Int) then ((notaryref01_Same.f k (rd_L3 x8 x13) (rd_L3 x11 x13)).bind fun t302 => (if t302 = true then ((notaryref47_Of.f k x7 x8 x13).bind fun t309 => ((notaryref47_Of.f k x10 x11 x13).bind fun t312 => ((notaryref01_Same.f k t309 t312).bind fun t315 => (if t315 = true then (notaryref47_Clash.l0 k x7 x8 x10 x11 (wrap64 (x13 - 1))) else ((notaryref47_Of.f k x7 x8 x13).bind fun t316 => ((notaryref47_Of.f k x10 x11 x13).bind fun t319 => (some (t316, t319, true)))))))) else (some (([] : List Int), ([] : List Int), false)))) else (none)) else (none)) else (none)) else (some (([] : List Int), ([] : List Int), false))
end
def notaryref47_Clash.f (k : Nat) (l0 : List Int) (l1 : List Int) : Option (List Int × List Int × Bool) := (notaryref47_Frames.f k l0).bind fun bt274 => ((notaryref47_Frames.f k l1).bind fun bt281 => (if bt274.2.2 = 0 then (if bt281.2.2 = 0 then (notaryref47_Clash.j0 k bt274.1 bt274.2.1 bt281.1 bt281.2.1 ((bt274.1.length : Int) != (bt281.1.length : Int))) else (notaryref47_Clash.j0 k bt274.1 bt274.2.1 bt281.1 bt281.2.1 true)) else (notaryref47_Clash.j0 k bt274.1 bt274.2.1 bt281.1 bt281.2.1 true)))
theorem notaryref47_Clash.mono_l : ∀ k, (∀ y0 y1 y2 y3 y4, LeO (notaryref47_Clash.j0 k y0 y1 y2 y3 y4) (notaryref47_Clash.j0 (k + 1) y0 y1 y2 y3 y4)) ∧ (∀ y0 y1 y2 y3 y4, LeO (notaryref47_Clash.l0 k y0 y1 y2 y3 y4) (notaryref47_Clash.l0 (k + 1) y0 y1 y2 y3 y4))
  | 0 => ⟨fun _ _ _ _ _ r h => by simp [notaryref47_Clash.j0] at h, fun _ _ _ _ _ r h => by simp [notaryref47_Clash.l0] at h⟩
  | k + 1 => by
    obtain ⟨ih0, ih1⟩ := notaryref47_Clash.mono_l k
    refine ⟨?_, ?_⟩
    · intro y0 y1 y2 y3 y4
      unfold notaryref47_Clash.j0
      repeat' first | (with_reducible exact ih1 _ _ _ _ _) | (with_reducible exact LeO.refl _) | (with_reducible refine LeO.ite ?_ ?_)
    · intro y0 y1 y2 y3 y4
      unfold notaryref47_Clash.l0
      repeat' first | (with_reducible exact ih1 _ _ _ _ _) | (with_reducible exact notaryref01_Same.mono _ _ _) | (with_reducible exact notaryref47_Of.mono _ _ _ _) | (with_reducible exact LeO.refl _) | (with_reducible refine LeO.ite ?_ ?_) | (with_reducible refine LeO.bind ?_ (fun _ => ?_))
theorem notaryref47_Clash.mono : ∀ a0 a1 k, LeO (notaryref47_Clash.f k a0 a1) (notaryref47_Clash.f (k + 1) a0 a1) := by
  intro a0 a1 k
  obtain ⟨ih0, ih1⟩ := notaryref47_Clash.mono_l k
  unfold notaryref47_Clash.f
  repeat' first | (with_reducible exact ih0 _ _ _ _ _) | (with_reducible exact notaryref47_Frames.mono _ _) | (with_reducible refine LeO.ite ?_ ?_) | (with_reducible refine LeO.bind ?_ (fun _ => ?_))
set_option maxHeartbeats 8000000 in
set_option maxRecDepth 100000 in
theorem notaryref47_Clash.calls (k : Nat) (A0 : Option Addr) (c0 : Nat) (l0 : List Int) (A1 : Option Addr) (c1 : Nat) (l1 : List Int) (r1 : List Int) (r2 : List Int) (r3 : Bool) (w : World) (hr0 : Kd.C (Kd.int .u8) w A0 l0.length l0) (hc0 : l0.length ≤ c0) (hr1 : Kd.C (Kd.int .u8) w A1 l1.length l1) (hc1 : l1.length ≤ c1) (h : notaryref47_Clash.f k l0 l1 = some (r1, r2, r3)) :
    Calls Try.prog 15 #[.slice A0 l0.length c0, .slice A1 l1.length c1] w fun e w' => ∃ v0_ v1_ : Value, e = .returned (.tuple #[v0_, v1_, .bool r3]) ∧ Kd.R (Kd.int .u8) 5 w' w.heap.size (fun k_ => some k_ ≠ (v1_ : Value).ownBlock) v0_ r1 ∧ Kd.R (Kd.int .u8) 5 w' w.heap.size (fun k_ => some k_ ≠ (v0_ : Value).ownBlock) v1_ r2 ∧ Below w.heap.size w w' := by
  have HR0 := Aside0.mk hr0
  have HC0 := Aside0.mk hc0
  clear hr0 hc0
  have HR1 := Aside0.mk hr1
  have HC1 := Aside0.mk hc1
  clear hr1 hc1
  have HB := Aside0.mk (Below.refl w.heap.size w)
  have H : ((notaryref47_Frames.f k l0).bind fun bt274 => ((notaryref47_Frames.f k l1).bind fun bt281 => (if bt274.2.2 = 0 then (if bt281.2.2 = 0 then (notaryref47_Clash.j0 k bt274.1 bt274.2.1 bt281.1 bt281.2.1 ((bt274.1.length : Int) != (bt281.1.length : Int))) else (notaryref47_Clash.j0 k bt274.1 bt274.2.1 bt281.1 bt281.2.1 true)) else (notaryref47_Clash.j0 k bt274.1 bt274.2.1 bt281.1 bt281.2.1 true)))) = some (r1, r2, r3) := h
  clear h
  replace H := Option.bind_eq_some_iff.mp H
  obtain ⟨⟨t274, t275, t276⟩, A30, H⟩ := H
  replace H : ((notaryref47_Frames.f k l1).bind fun bt281 => (if t276 = 0 then (if bt281.2.2 = 0 then (notaryref47_Clash.j0 k t274 t275 bt281.1 bt281.2.1 ((t274.length : Int) != (bt281.1.length : Int))) else (notaryref47_Clash.j0 k t274 t275 bt281.1 bt281.2.1 true)) else (notaryref47_Clash.j0 k t274 t275 bt281.1 bt281.2.1 true))) = some (r1, r2, r3) := H
  have A3 := Aside0.mk A30
  clear A30
  replace H := Option.bind_eq_some_iff.mp H
  obtain ⟨⟨t281, t282, t283⟩, A40, H⟩ := H
  replace H : (if t276 = 0 then (if t283 = 0 then (notaryref47_Clash.j0 k t274 t275 t281 t282 ((t274.length : Int) != (t281.length : Int))) else (notaryref47_Clash.j0 k t274 t275 t281 t282 true)) else (notaryref47_Clash.j0 k t274 t275 t281 t282 true)) = some (r1, r2, r3) := H
  have A4 := Aside0.mk A40
  clear A40
  have HC5 := Aside0.mk H
  clear H
  go_enter Try.func15, Try.ntmps15
  go_upto_region 3 with (first | (go_at_call 28; (with_reducible refine (notaryref47_Frames.calls k _ _ l0 t274 t275 t276 _ ?side1 ?side2 A3.out).mono ?_); (case side1 => repeat (exact HR0.out)); (case side2 => exact HC0.out); rintro e w6 ⟨v277, v279, rfl, ho0, ho1, hb⟩; have n0_ := Aside0.mk (Kd.S_lower ho0 (below_size HB.out)); have n1_ := Aside0.mk (Kd.S_lower ho1 (below_size HB.out)); have n2_ := Aside0.mk (below_step HB.out hb); clear HB; have HO278 := n0_; have HO280 := n1_; have HB := n2_; clear n0_ n1_ n2_; (try clear hb); (try clear ho0); (try clear ho1)) | (go_at_call 28; (with_reducible refine (notaryref47_Frames.calls k _ _ l1 t281 t282 t283 _ ?side1 ?side2 A4.out).mono ?_); (case side1 => exact Kd.C_below HR1.out HB.out); (case side2 => exact HC1.out); rintro e w7 ⟨v284, v286, rfl, ho0, ho1, hb⟩; have n0_ := Aside0.mk (Kd.S_elder' (by exact HO278.out) (Kd.S_base ho0) hb); have n1_ := Aside0.mk (Kd.S_elder' (by exact HO280.out) (Kd.S_base ho1) hb); have n2_ := Aside0.mk (Kd.S_lower (Kd.S_new' ho0 (Kd.S_lt (by exact HO278.out))) (below_size HB.out)); have n3_ := Aside0.mk (Kd.S_lower (Kd.S_new' ho1 (Kd.S_lt (by exact HO280.out))) (below_size HB.out)); have n4_ := Aside0.mk (below_step HB.out hb); clear HO278; clear HO280; clear HB; have HO278 := n0_; have HO280 := n1_; have HO285 := n2_; have HO287 := n3_; have HB := n4_; clear n0_ n1_ n2_ n3_ n4_; (try clear hb); (try clear ho0); (try clear ho1)))
  repeat (go_quiet (first | (go_at_call 28; (with_reducible refine (notaryref47_Frames.calls k _ _ l0 t274 t275 t276 _ ?side1 ?side2 A3.out).mono ?_); (case side1 => repeat (fail)); (case side2 => exact HC0.out); rintro e w6 ⟨v277, v279, rfl, ho0, ho1, hb⟩; have n0_ := Aside0.mk (Kd.S_lower ho0 (below_size (by repeat (fail)))); have n1_ := Aside0.mk (Kd.S_lower ho1 (below_size (by repeat (fail)))); have n2_ := Aside0.mk (below_step (by repeat (fail)) hb); clear HB; have HO278 := n0_; have HO280 := n1_; have HB := n2_; clear n0_ n1_ n2_; (skip))); go_upto_region 3 with (first | (go_at_call 28; (with_reducible refine (notaryref47_Frames.calls k _ _ l0 t274 t275 t276 _ ?side1 ?side2 A3.out).mono ?_); (case side1 => repeat (fail)); (case side2 => exact HC0.out); rintro e w6 ⟨v277, v279, rfl, ho0, ho1, hb⟩; have n0_ := Aside0.mk (Kd.S_lower ho0 (below_size (by repeat (fail)))); have n1_ := Aside0.mk (Kd.S_lower ho1 (below_size (by repeat (fail)))); have n2_ := Aside0.mk (below_step (by repeat (fail)) hb); clear HB; have HO278 := n0_; have HO280 := n1_; have HB := n2_; clear n0_ n1_ n2_; (skip))))
  (skip)
  go_cut [38] (fun v38 wc => ∃ (kq : Nat) (x38_4 : Bool), v38 = .bool x38_4 ∧ Aside0 (notaryref47_Clash.j0 kq t274 t275 t281 t282 x38_4 = some (r1, r2, r3)) ∧ Aside0 (kq ≤ k) ∧ Aside0 (Kd.S k42 42 wc w.heap.size (fun k_ => some k_ ≠ (v284 : Value).ownBlock) v277 t274) ∧ Aside0 (Kd.S (Kd.slice 5 (Kd.int .u8)) 22 wc w.heap.size (fun k_ => some k_ ≠ (v286 : Value).ownBlock) v279 t275) ∧ Aside0 (Kd.S k42 42 wc w.heap.size (fun k_ => some k_ ≠ (v277 : Value).ownBlock) v284 t281) ∧ Aside0 (Kd.S (Kd.slice 5 (Kd.int .u8)) 22 wc w.heap.size (fun k_ => some k_ ≠ (v279 : Value).ownBlock) v286 t282) ∧ Aside0 (Below w.heap.size w wc))
  case first =>
    have H := HC5.out
    clear HC5
    by_cases c8 : t276 = 0
    rotate_left
    · rw [if_neg c8] at H
      have c8b0 : (t276 == 0) = false := beq_eq_false_iff_ne.mpr c8
      have c8b1 : (t276 != 0) = true := bne_iff_ne.mpr c8
      (skip)
      have H' := Aside0.mk H
      clear H
      go_wp2
      repeat (go_quiet (fail); skip)
      go_meet
      case rel => exact ⟨_, (true), (by (rfl)), H', ⟨by (omega)⟩, ⟨by exact Kd.S_mono HO278.out (fun _ hk => hk.2)⟩, ⟨by exact Kd.S_mono HO280.out (fun _ hk => hk.2)⟩, ⟨by exact Kd.S_mono HO285.out (fun _ hk => hk.2)⟩, ⟨by exact Kd.S_mono HO287.out (fun _ hk => hk.2)⟩, ⟨HB.out⟩⟩
    rw [if_pos c8] at H
    have c8b0 : (t276 == 0) = true := beq_iff_eq.mpr c8
    have c8b1 : (t276 != 0) = false := bne_eq_false_iff_eq.mpr c8
    clear c8
    (skip)
    by_cases c9 : t283 = 0
    rotate_left
    · rw [if_neg c9] at H
      have c9b0 : (t283 == 0) = false := beq_eq_false_iff_ne.mpr c9
      have c9b1 : (t283 != 0) = true := bne_iff_ne.mpr c9
      have H' := Aside0.mk H
      clear H
      go_wp2
      repeat (go_quiet (fail); skip)
      go_meet
      case rel => exact ⟨_, (true), (by (rfl)), H', ⟨by (omega)⟩, ⟨by exact Kd.S_mono HO278.out (fun _ hk => hk.2)⟩, ⟨by exact Kd.S_mono HO280.out (fun _ hk => hk.2)⟩, ⟨by exact Kd.S_mono HO285.out (fun _ hk => hk.2)⟩, ⟨by exact Kd.S_mono HO287.out (fun _ hk => hk.2)⟩, ⟨HB.out⟩⟩
    rw [if_pos c9] at H
    have c9b0 : (t283 == 0) = true := beq_iff_eq.mpr c9
    have c9b1 : (t283 != 0) = false := bne_eq_false_iff_eq.mpr c9
    clear c9
    have H' := Aside0.mk H
    clear H
    obtain ⟨Ao10, co10, eo10⟩ := Kd.S_slice HO278.out
    subst eo10
    obtain ⟨Ao11, co11, eo11⟩ := Kd.S_slice HO285.out
    subst eo11
    go_wp2
    repeat (go_quiet (fail); skip)
    go_meet
    case rel => exact ⟨_, (((t274.length : Int) != (t281.length : Int))), (by (rfl)), H', ⟨by (omega)⟩, ⟨by exact Kd.S_mono HO278.out (fun _ hk => hk.2)⟩, ⟨by exact Kd.S_mono HO280.out (fun _ hk => hk.2)⟩, ⟨by exact Kd.S_mono HO285.out (fun _ hk => hk.2)⟩, ⟨by exact Kd.S_mono HO287.out (fun _ hk => hk.2)⟩, ⟨HB.out⟩⟩
  clear HC5
  obtain ⟨kq, x38_4, rfl, HA, HJ4, HO_7, HO_8, HO_10, HO_11, HB⟩ := hcut
  rcases kq with _ | kj4
  · exact absurd HA.out (by simp [notaryref47_Clash.j0])
  have H := HA.out
  clear HA
  simp only [notaryref47_Clash.j0] at H
  by_cases c12 : x38_4 = true
  · subst c12
    have H1 : (some (([] : List Int), ([] : List Int), false)) = some (r1, r2, r3) := by rw [if_pos rfl] at H; exact H
    clear H
    have H := H1
    clear H1
    obtain ⟨y288, hy288⟩ : ∃ y_ : List Int, y_ = ([] : List Int) := ⟨_, rfl⟩
    replace H : (some (y288, ([] : List Int), false)) = some (r1, r2, r3) := by (rw [hy288]; with_reducible exact H)
    have Ny288 := Aside0.mk hy288
    clear hy288
    obtain ⟨y291, hy291⟩ : ∃ y_ : List Int, y_ = ([] : List Int) := ⟨_, rfl⟩
    replace H : (some (y288, y291, false)) = some (r1, r2, r3) := by (rw [hy291]; with_reducible exact H)
    have Ny291 := Aside0.mk hy291
    clear hy291
    simp only [Option.some.injEq, Prod.mk.injEq] at H
    obtain ⟨rfl, rfl, rfl⟩ := H
    go_wp2_with (first | ((with_reducible refine gate_dst (N := 39) rfl ?_); (try (refine gate_guard (by rfl) ?_; dsimp only)); refine Kd.R_lit (Kd.int .u8) _ 5 ?hg (N := 39) ?hd (xs := ([] : List Int)) (inner := []) (ok := fun _ => True) (okp := fun _ => True) ?hr ?hp (fun _ hk => hk) trivial (Below.refl _ _) (Nat.le_refl _) (by simp) ?_; (case hd => rfl); (case hg => rfl); (case hr => (go_simp; done)); (case hp => exact (Reps.none _ _)); intro v289 w13 ho14 hb hg_ hnew_; clear hg_ hnew_; (rw [← Ny288.out] at ho14); have n0_ := Aside0.mk (Kd.S_elder' (by exact HO_7.out) (Kd.R_base ho14) hb); have n1_ := Aside0.mk (Kd.S_elder' (by exact HO_8.out) (Kd.R_base ho14) hb); have n2_ := Aside0.mk (Kd.S_elder' (by exact HO_10.out) (Kd.R_base ho14) hb); have n3_ := Aside0.mk (Kd.S_elder' (by exact HO_11.out) (Kd.R_base ho14) hb); have n4_ := Aside0.mk (Kd.R_lower ho14 (below_size HB.out)); have n5_ := Aside0.mk (below_step HB.out hb); clear HO_7; clear HO_8; clear HO_10; clear HO_11; clear HB; have HO_7 := n0_; have HO_8 := n1_; have HO_10 := n2_; have HO_11 := n3_; have HO290 := n4_; have HB := n5_; clear n0_ n1_ n2_ n3_ n4_ n5_; clear hb ho14) | ((with_reducible refine gate_dst (N := 40) rfl ?_); (try (refine gate_guard (by rfl) ?_; dsimp only)); refine Kd.R_lit (Kd.int .u8) _ 5 ?hg (N := 40) ?hd (xs := ([] : List Int)) (inner := []) (ok := fun _ => True) (okp := fun _ => True) ?hr ?hp (fun _ hk => hk) trivial (Below.refl _ _) (Nat.le_refl _) (by simp) ?_; (case hd => rfl); (case hg => rfl); (case hr => (go_simp; done)); (case hp => exact (Reps.none _ _)); intro v292 w15 ho16 hb hg_ hnew_; clear hg_ hnew_; (rw [← Ny291.out] at ho16); have n0_ := Aside0.mk (Kd.S_elder' (by exact HO_7.out) (Kd.R_base ho16) hb); have n1_ := Aside0.mk (Kd.S_elder' (by exact HO_8.out) (Kd.R_base ho16) hb); have n2_ := Aside0.mk (Kd.S_elder' (by exact HO_10.out) (Kd.R_base ho16) hb); have n3_ := Aside0.mk (Kd.S_elder' (by exact HO_11.out) (Kd.R_base ho16) hb); have n4_ := Aside0.mk (Kd.R_elder' (by exact HO290.out) (Kd.R_base ho16) hb); have n5_ := Aside0.mk (Kd.R_lower (Kd.R_new' ho16 (Kd.R_lt (by exact HO290.out))) (below_size HB.out)); have n6_ := Aside0.mk (below_step HB.out hb); clear HO_7; clear HO_8; clear HO_10; clear HO_11; clear HO290; clear HB; have HO_7 := n0_; have HO_8 := n1_; have HO_10 := n2_; have HO_11 := n3_; have HO290 := n4_; have HO293 := n5_; have HB := n6_; clear n0_ n1_ n2_ n3_ n4_ n5_ n6_; clear hb ho16))
    repeat (go_quiet (first | ((with_reducible refine gate_dst (N := 39) rfl ?_); refine Kd.R_lit (Kd.int .u8) _ 5 ?hg (N := 39) ?hd (xs := ([] : List Int)) (inner := []) (ok := fun _ => True) (okp := fun _ => True) ?hr ?hp (fun _ hk => hk) trivial (Below.refl _ _) (Nat.le_refl _) (by simp) ?_; (case hd => rfl); (case hg => rfl); (case hr => first | (go_simp; done)); (case hp => exact (Reps.none _ _)); intro v289 w13 ho14 hb hg_ hnew_; clear hg_ hnew_; (first | rw [← Ny288.out] at ho14); have n0_ := Aside0.mk (Kd.S_elder' (by exact HO_7.out) (Kd.R_base ho14) hb); have n1_ := Aside0.mk (Kd.S_elder' (by exact HO_8.out) (Kd.R_base ho14) hb); have n2_ := Aside0.mk (Kd.S_elder' (by exact HO_10.out) (Kd.R_base ho14) hb); have n3_ := Aside0.mk (Kd.S_elder' (by exact HO_11.out) (Kd.R_base ho14) hb); have n4_ := Aside0.mk (Kd.R_lower ho14 (below_size (by repeat (fail)))); have n5_ := Aside0.mk (below_step (by repeat (fail)) hb); clear HO_7; clear HO_8; clear HO_10; clear HO_11; clear HB; have HO_7 := n0_; have HO_8 := n1_; have HO_10 := n2_; have HO_11 := n3_; have HO290 := n4_; have HB := n5_; clear n0_ n1_ n2_ n3_ n4_ n5_; clear hb ho14)); skip)
    go_ret3
    exact ⟨_, _, by (rfl), by exact Kd.R_mono HO290.out (fun _ hk => hk.2), by exact Kd.R_mono HO293.out (fun _ hk => hk.2), HB.out⟩
  replace c12 := Bool.eq_false_iff.mpr c12
  subst c12
  have H1 : (notaryref47_Clash.l0 kj4 t274 t275 t281 t282 (wrap64 ((t274.length : Int) - 1))) = some (r1, r2, r3) := by rw [if_neg (show ¬ (false = true) by decide)] at H; exact H
  clear H
  have H := H1
  clear H1
  have H' := Aside0.mk H
  clear H
  obtain ⟨Ao17, co17, eo17⟩ := Kd.S_slice HO_7.out
  subst eo17
  go_wp2
  repeat (go_quiet (fail); skip)
  go_loopg [13] kj4 (fun kq v13 w' => ∃ (x13_2 : Int), v13 = .int .i64 x13_2 ∧ Aside0 (notaryref47_Clash.l0 kq t274 t275 t281 t282 x13_2 = some (r1, r2, r3)) ∧ Aside0 (kq ≤ kj4) ∧ Aside0 (Kd.S k42 42 w' w.heap.size (fun k_ => some k_ ≠ (v284 : Value).ownBlock) (.slice Ao17 t274.length co17) t274) ∧ Aside0 (Kd.S (Kd.slice 5 (Kd.int .u8)) 22 w' w.heap.size (fun k_ => some k_ ≠ (v286 : Value).ownBlock) v279 t275) ∧ Aside0 (Kd.S k42 42 w' w.heap.size (fun k_ => some k_ ≠ ((.slice Ao17 t274.length co17) : Value).ownBlock) v284 t281) ∧ Aside0 (Kd.S (Kd.slice 5 (Kd.int .u8)) 22 w' w.heap.size (fun k_ => some k_ ≠ (v279 : Value).ownBlock) v286 t282) ∧ Aside0 (Below w.heap.size w w'))
  case atStart => exact ⟨(wrap64 ((t274.length : Int) - 1)), (by (rfl)), H', ⟨Nat.le_refl _⟩, ⟨by exact HO_7.out⟩, ⟨by exact HO_8.out⟩, ⟨by exact HO_10.out⟩, ⟨by exact HO_11.out⟩, ⟨HB.out⟩⟩
  clear H'
  obtain ⟨x13_2, rfl, HA, HK2, HO_7, HO_8, HO_10, HO_11, HB⟩ := hrel
  rcases gk with _ | k2
  · exact absurd HA.out (by simp [notaryref47_Clash.l0])
  have H := HA.out
  clear HA
  simp only [notaryref47_Clash.l0] at H
  by_cases c18 : x13_2 ≥ 0
  rotate_left
  · rw [if_neg c18] at H
    have c18b0 : decide (0 ≤ x13_2) = false := decide_eq_false c18
    clear c18
    obtain ⟨y294, hy294⟩ : ∃ y_ : List Int, y_ = ([] : List Int) := ⟨_, rfl⟩
    replace H : (some (y294, ([] : List Int), false)) = some (r1, r2, r3) := by (rw [hy294]; with_reducible exact H)
    have Ny294 := Aside0.mk hy294
    clear hy294
    obtain ⟨y297, hy297⟩ : ∃ y_ : List Int, y_ = ([] : List Int) := ⟨_, rfl⟩
    replace H : (some (y294, y297, false)) = some (r1, r2, r3) := by (rw [hy297]; with_reducible exact H)
    have Ny297 := Aside0.mk hy297
    clear hy297
    simp only [Option.some.injEq, Prod.mk.injEq] at H
    obtain ⟨rfl, rfl, rfl⟩ := H
    go_wp2_with (first | ((with_reducible refine gate_dst (N := 78) rfl ?_); (try (refine gate_guard (by rfl) ?_; dsimp only)); refine Kd.R_lit (Kd.int .u8) _ 5 ?hg (N := 78) ?hd (xs := ([] : List Int)) (inner := []) (ok := fun _ => True) (okp := fun _ => True) ?hr ?hp (fun _ hk => hk) trivial (Below.refl _ _) (Nat.le_refl _) (by simp) ?_; (case hd => rfl); (case hg => rfl); (case hr => (go_simp; done)); (case hp => exact (Reps.none _ _)); intro v295 w52 ho53 hb hg_ hnew_; clear hg_ hnew_; (rw [← Ny294.out] at ho53); have n0_ := Aside0.mk (Kd.S_elder' (by exact HO_7.out) (Kd.R_base ho53) hb); have n1_ := Aside0.mk (Kd.S_elder' (by exact HO_8.out) (Kd.R_base ho53) hb); have n2_ := Aside0.mk (Kd.S_elder' (by exact HO_10.out) (Kd.R_base ho53) hb); have n3_ := Aside0.mk (Kd.S_elder' (by exact HO_11.out) (Kd.R_base ho53) hb); have n4_ := Aside0.mk (Kd.R_lower ho53 (below_size HB.out)); have n5_ := Aside0.mk (below_step HB.out hb); clear HO_7; clear HO_8; clear HO_10; clear HO_11; clear HB; have HO_7 := n0_; have HO_8 := n1_; have HO_10 := n2_; have HO_11 := n3_; have HO296 := n4_; have HB := n5_; clear n0_ n1_ n2_ n3_ n4_ n5_; clear hb ho53) | ((with_reducible refine gate_dst (N := 79) rfl ?_); (try (refine gate_guard (by rfl) ?_; dsimp only)); refine Kd.R_lit (Kd.int .u8) _ 5 ?hg (N := 79) ?hd (xs := ([] : List Int)) (inner := []) (ok := fun _ => True) (okp := fun _ => True) ?hr ?hp (fun _ hk => hk) trivial (Below.refl _ _) (Nat.le_refl _) (by simp) ?_; (case hd => rfl); (case hg => rfl); (case hr => (go_simp; done)); (case hp => exact (Reps.none _ _)); intro v298 w54 ho55 hb hg_ hnew_; clear hg_ hnew_; (rw [← Ny297.out] at ho55); have n0_ := Aside0.mk (Kd.S_elder' (by exact HO_7.out) (Kd.R_base ho55) hb); have n1_ := Aside0.mk (Kd.S_elder' (by exact HO_8.out) (Kd.R_base ho55) hb); have n2_ := Aside0.mk (Kd.S_elder' (by exact HO_10.out) (Kd.R_base ho55) hb); have n3_ := Aside0.mk (Kd.S_elder' (by exact HO_11.out) (Kd.R_base ho55) hb); have n4_ := Aside0.mk (Kd.R_elder' (by exact HO296.out) (Kd.R_base ho55) hb); have n5_ := Aside0.mk (Kd.R_lower (Kd.R_new' ho55 (Kd.R_lt (by exact HO296.out))) (below_size HB.out)); have n6_ := Aside0.mk (below_step HB.out hb); clear HO_7; clear HO_8; clear HO_10; clear HO_11; clear HO296; clear HB; have HO_7 := n0_; have HO_8 := n1_; have HO_10 := n2_; have HO_11 := n3_; have HO296 := n4_; have HO299 := n5_; have HB := n6_; clear n0_ n1_ n2_ n3_ n4_ n5_ n6_; clear hb ho55))
    repeat (go_quiet (first | ((with_reducible refine gate_dst (N := 78) rfl ?_); refine Kd.R_lit (Kd.int .u8) _ 5 ?hg (N := 78) ?hd (xs := ([] : List Int)) (inner := []) (ok := fun _ => True) (okp := fun _ => True) ?hr ?hp (fun _ hk => hk) trivial (Below.refl _ _) (Nat.le_refl _) (by simp) ?_; (case hd => rfl); (case hg => rfl); (case hr => first | (go_simp; done)); (case hp => exact (Reps.none _ _)); intro v295 w52 ho53 hb hg_ hnew_; clear hg_ hnew_; (first | rw [← Ny294.out] at ho53); have n0_ := Aside0.mk (Kd.S_elder' (by exact HO_7.out) (Kd.R_base ho53) hb); have n1_ := Aside0.mk (Kd.S_elder' (by exact HO_8.out) (Kd.R_base ho53) hb); have n2_ := Aside0.mk (Kd.S_elder' (by exact HO_10.out) (Kd.R_base ho53) hb); have n3_ := Aside0.mk (Kd.S_elder' (by exact HO_11.out) (Kd.R_base ho53) hb); have n4_ := Aside0.mk (Kd.R_lower ho53 (below_size (by repeat (fail)))); have n5_ := Aside0.mk (below_step (by repeat (fail)) hb); clear HO_7; clear HO_8; clear HO_10; clear HO_11; clear HB; have HO_7 := n0_; have HO_8 := n1_; have HO_10 := n2_; have HO_11 := n3_; have HO296 := n4_; have HB := n5_; clear n0_ n1_ n2_ n3_ n4_ n5_; clear hb ho53)); skip)
    go_ret3
    exact ⟨_, _, by (rfl), by exact Kd.R_mono HO296.out (fun _ hk => hk.2), by exact Kd.R_mono HO299.out (fun _ hk => hk.2), HB.out⟩

  rw [if_pos c18] at H
  have c18b0 : decide (0 ≤ x13_2) = true := decide_eq_true c18
  clear c18
  by_cases c19 : 0 ≤ x13_2
  rotate_left
  · rw [if_neg c19] at H
    exact absurd H (by simp)
  rw [if_pos c19] at H
  have c19b0 : decide (0 ≤ x13_2) = true := decide_eq_true c19
  clear c19
  by_cases c20 : x13_2 < (t275.length : Int)
  rotate_left
  · rw [if_neg c20] at H
    exact absurd H (by simp)
  rw [if_pos c20] at H
  have c20b0 : decide (x13_2 < (t275.length : Int)) = true := decide_eq_true c20
  clear c20
  by_cases c21 : x13_2 < (t282.length : Int)
  rotate_left
  · rw [if_neg c21] at H
    exact absurd H (by simp)
  rw [if_pos c21] at H
  have c21b0 : decide (x13_2 < (t282.length : Int)) = true := decide_eq_true c21
  clear c21
  replace H := Option.bind_eq_some_iff.mp H
  obtain ⟨t302, A220, H⟩ := H
  replace H : (if t302 = true then ((notaryref47_Of.f k2 t274 t275 x13_2).bind fun t309 => ((notaryref47_Of.f k2 t281 t282 x13_2).bind fun t312 => ((notaryref01_Same.f k2 t309 t312).bind fun t315 => (if t315 = true then (notaryref47_Clash.l0 k2 t274 t275 t281 t282 (wrap64 (x13_2 - 1))) else ((notaryref47_Of.f k2 t274 t275 x13_2).bind fun t316 => ((notaryref47_Of.f k2 t281 t282 x13_2).bind fun t319 => (some (t316, t319, true)))))))) else (some (([] : List Int), ([] : List Int), false))) = some (r1, r2, r3) := H
  have A22 := Aside0.mk A220
  clear A220
  by_cases c23 : t302 = true
  rotate_left
  · replace c23 := Bool.eq_false_iff.mpr c23
    subst c23
    have H1 : (some (([] : List Int), ([] : List Int), false)) = some (r1, r2, r3) := by rw [if_neg (show ¬ (false = true) by decide)] at H; exact H
    clear H
    have H := H1
    clear H1
    obtain ⟨y303, hy303⟩ : ∃ y_ : List Int, y_ = ([] : List Int) := ⟨_, rfl⟩
    replace H : (some (y303, ([] : List Int), false)) = some (r1, r2, r3) := by (rw [hy303]; with_reducible exact H)
    have Ny303 := Aside0.mk hy303
    clear hy303
    obtain ⟨y306, hy306⟩ : ∃ y_ : List Int, y_ = ([] : List Int) := ⟨_, rfl⟩
    replace H : (some (y303, y306, false)) = some (r1, r2, r3) := by (rw [hy306]; with_reducible exact H)
    have Ny306 := Aside0.mk hy306
    clear hy306
    simp only [Option.some.injEq, Prod.mk.injEq] at H
    obtain ⟨rfl, rfl, rfl⟩ := H
    obtain ⟨Ao46, co46, eo46⟩ := Kd.S_slice HO_8.out
    subst eo46
    have p300 : 0 ≤ (x13_2 : Int) := of_decide_eq_true (by (with_reducible assumption))
    have q300 : x13_2 < (t275.length : Int) := of_decide_eq_true (by (with_reducible assumption))
    obtain ⟨ad300, A300_0, c300_0, e300, hx300_0, hl300_0, hi300_0⟩ := at_L3 (Kd.S_reads' HO_8.out).2.2 x13_2 p300 q300
    cases e300
    obtain ⟨ce300, hce300, hMe300, hcc300⟩ := Kd.S_get HO_8.out [] x13_2 p300 (by (exact q300))
    obtain ⟨ve300_0, rfl, ge300_0⟩ := hMe300
    have hv300_0 := hcc300 0 _ rfl
    rw [Nat.add_zero, show ((Kd.slice 5 (Kd.int .u8))).sz = 1 from rfl, Nat.mul_one] at hv300_0
    replace hv300_0 := Option.some.inj (hv300_0.symm.trans hx300_0)
    rw [hv300_0] at ge300_0
    have HL300_0 := Aside0.mk (show Kd.R (Kd.int .u8) 5 _ _ _ _ (rd_L3 t275 x13_2) from ge300_0)
    clear hv300_0 ge300_0
    clear hcc300 hce300
    have HR300_0 := Aside0.mk hi300_0
    have HC300_0 := Aside0.mk hl300_0
    clear hi300_0 hl300_0
    replace p300 := eq_true p300
    replace q300 := eq_true q300
    obtain ⟨Ao47, co47, eo47⟩ := Kd.S_slice HO_11.out
    subst eo47
    have p301 : 0 ≤ (x13_2 : Int) := of_decide_eq_true (by (with_reducible assumption))
    have q301 : x13_2 < (t282.length : Int) := of_decide_eq_true (by (with_reducible assumption))
    obtain ⟨ad301, A301_0, c301_0, e301, hx301_0, hl301_0, hi301_0⟩ := at_L3 (Kd.S_reads' HO_11.out).2.2 x13_2 p301 q301
    cases e301
    obtain ⟨ce301, hce301, hMe301, hcc301⟩ := Kd.S_get HO_11.out [] x13_2 p301 (by (exact q301))
    obtain ⟨ve301_0, rfl, ge301_0⟩ := hMe301
    have hv301_0 := hcc301 0 _ rfl
    rw [Nat.add_zero, show ((Kd.slice 5 (Kd.int .u8))).sz = 1 from rfl, Nat.mul_one] at hv301_0
    replace hv301_0 := Option.some.inj (hv301_0.symm.trans hx301_0)
    rw [hv301_0] at ge301_0
    have HL301_0 := Aside0.mk (show Kd.R (Kd.int .u8) 5 _ _ _ _ (rd_L3 t282 x13_2) from ge301_0)
    clear hv301_0 ge301_0
    clear hcc301 hce301
    have HR301_0 := Aside0.mk hi301_0
    have HC301_0 := Aside0.mk hl301_0
    clear hi301_0 hl301_0
    replace p301 := eq_true p301
    replace q301 := eq_true q301
    go_wp2_with (first | (go_at_call 11; (with_reducible refine (notaryref01_Same.calls k2 _ _ (rd_L3 t275 x13_2) _ _ (rd_L3 t282 x13_2) false _ ?side1 ?side2 ?side3 ?side4 A22.out).mono ?_); (case side1 => repeat (fail)); (case side2 => exact HC300_0.out); (case side3 => repeat (fail)); (case side4 => exact HC301_0.out); rintro e w' ⟨rfl, ⟨nd, rfl⟩⟩; (try first | exact ⟨rfl, _, World.drewN_drewN _ _ _⟩)))
    repeat (go_quiet (((go_at_call 11; (with_reducible refine (notaryref01_Same.calls k2 _ _ (rd_L3 t275 x13_2) _ _ (rd_L3 t282 x13_2) false _ ?side1 ?side2 ?side3 ?side4 A22.out).mono ?_); (case side1 => repeat ((exact (by repeat (first | (with_reducible exact HR300_0.out) | (with_reducible refine Kd.C_drewN ?_ _)))))); (case side2 => exact HC300_0.out); (case side3 => repeat ((exact (by repeat (first | (with_reducible exact HR301_0.out) | (with_reducible refine Kd.C_drewN ?_ _)))))); (case side4 => exact HC301_0.out); rintro e w' ⟨rfl, ⟨nd, rfl⟩⟩; (try (exact ⟨rfl, _, World.drewN_drewN _ _ _⟩))))); try go_wp2_with (first | ((with_reducible refine gate_dst (N := 58) rfl ?_); (try (refine gate_guard (by rfl) ?_; dsimp only)); refine Kd.R_lit (Kd.int .u8) _ 5 ?hg (N := 58) ?hd (xs := ([] : List Int)) (inner := []) (ok := fun _ => True) (okp := fun _ => True) ?hr ?hp (fun _ hk => hk) trivial (Below.refl _ _) (Nat.le_refl _) (by simp) ?_; (case hd => rfl); (case hg => rfl); (case hr => (go_simp; done)); (case hp => exact (Reps.none _ _)); intro v304 w48 ho49 hb hg_ hnew_; clear hg_ hnew_; (rw [← Ny303.out] at ho49); have n0_ := Aside0.mk (Kd.S_elder' (by (with_reducible repeat (apply Kd.S_drewN)); exact HO_7.out) (Kd.R_base ho49) hb); have n1_ := Aside0.mk (Kd.S_elder' (by (with_reducible repeat (apply Kd.S_drewN)); exact HO_8.out) (Kd.R_base ho49) hb); have n2_ := Aside0.mk (Kd.S_elder' (by (with_reducible repeat (apply Kd.S_drewN)); exact HO_10.out) (Kd.R_base ho49) hb); have n3_ := Aside0.mk (Kd.S_elder' (by (with_reducible repeat (apply Kd.S_drewN)); exact HO_11.out) (Kd.R_base ho49) hb); have n4_ := Aside0.mk (Kd.R_elder' (by (with_reducible repeat (apply Kd.R_drewN)); exact HL300_0.out) (Kd.R_base ho49) hb); have n5_ := Aside0.mk (Kd.R_elder' (by (with_reducible repeat (apply Kd.R_drewN)); exact HL301_0.out) (Kd.R_base ho49) hb); have n6_ := Aside0.mk (Kd.R_lower (Kd.R_new' (Kd.R_new' ho49 (Kd.R_lt (by (with_reducible repeat (apply Kd.R_drewN)); exact HL300_0.out))) (Kd.R_lt (by (with_reducible repeat (apply Kd.R_drewN)); exact HL301_0.out))) (below_size (by repeat (with_reducible first | exact HB.out | apply pw_below_drewN)))); have n7_ := Aside0.mk (Kd.C_below (by repeat (exact HR300_0.out)) hb); have n8_ := Aside0.mk (Kd.C_below (by repeat (exact HR301_0.out)) hb); have n9_ := Aside0.mk (below_step (by repeat (with_reducible first | exact HB.out | apply pw_below_drewN)) hb); clear HO_7; clear HO_8; clear HO_10; clear HO_11; clear HL300_0; clear HL301_0; clear HR300_0; clear HR301_0; clear HB; have HO_7 := n0_; have HO_8 := n1_; have HO_10 := n2_; have HO_11 := n3_; have HL300_0 := n4_; have HL301_0 := n5_; have HO305 := n6_; have HR300_0 := n7_; have HR301_0 := n8_; have HB := n9_; clear n0_ n1_ n2_ n3_ n4_ n5_ n6_ n7_ n8_ n9_; clear hb ho49) | ((with_reducible refine gate_dst (N := 59) rfl ?_); (try (refine gate_guard (by rfl) ?_; dsimp only)); refine Kd.R_lit (Kd.int .u8) _ 5 ?hg (N := 59) ?hd (xs := ([] : List Int)) (inner := []) (ok := fun _ => True) (okp := fun _ => True) ?hr ?hp (fun _ hk => hk) trivial (Below.refl _ _) (Nat.le_refl _) (by simp) ?_; (case hd => rfl); (case hg => rfl); (case hr => (go_simp; done)); (case hp => exact (Reps.none _ _)); intro v307 w50 ho51 hb hg_ hnew_; clear hg_ hnew_; (rw [← Ny306.out] at ho51); have n0_ := Aside0.mk (Kd.S_elder' (by exact HO_7.out) (Kd.R_base ho51) hb); have n1_ := Aside0.mk (Kd.S_elder' (by exact HO_8.out) (Kd.R_base ho51) hb); have n2_ := Aside0.mk (Kd.S_elder' (by exact HO_10.out) (Kd.R_base ho51) hb); have n3_ := Aside0.mk (Kd.S_elder' (by exact HO_11.out) (Kd.R_base ho51) hb); have n4_ := Aside0.mk (Kd.R_elder' (by exact HL300_0.out) (Kd.R_base ho51) hb); have n5_ := Aside0.mk (Kd.R_elder' (by exact HL301_0.out) (Kd.R_base ho51) hb); have n6_ := Aside0.mk (Kd.R_elder' (by exact HO305.out) (Kd.R_base ho51) hb); have n7_ := Aside0.mk (Kd.R_lower (Kd.R_new' (Kd.R_new' (Kd.R_new' ho51 (Kd.R_lt (by exact HL300_0.out))) (Kd.R_lt (by exact HL301_0.out))) (Kd.R_lt (by exact HO305.out))) (below_size HB.out)); have n8_ := Aside0.mk (Kd.C_below (by repeat (with_reducible exact HR300_0.out)) hb); have n9_ := Aside0.mk (Kd.C_below (by repeat (with_reducible exact HR301_0.out)) hb); have n10_ := Aside0.mk (below_step HB.out hb); clear HO_7; clear HO_8; clear HO_10; clear HO_11; clear HL300_0; clear HL301_0; clear HO305; clear HR300_0; clear HR301_0; clear HB; have HO_7 := n0_; have HO_8 := n1_; have HO_10 := n2_; have HO_11 := n3_; have HL300_0 := n4_; have HL301_0 := n5_; have HO305 := n6_; have HO308 := n7_; have HR300_0 := n8_; have HR301_0 := n9_; have HB := n10_; clear n0_ n1_ n2_ n3_ n4_ n5_ n6_ n7_ n8_ n9_ n10_; clear hb ho51)))
    go_ret3
    exact ⟨_, _, by (rfl), by exact Kd.R_mono HO305.out (fun _ hk => hk.2), by exact Kd.R_mono HO308.out (fun _ hk => hk.2), HB.out⟩
  subst c23
  have H1 : ((notaryref47_Of.f k2 t274 t275 x13_2).bind fun t309 => ((notaryref47_Of.f k2 t281 t282 x13_2).bind fun t312 => ((notaryref01_Same.f k2 t309 t312).bind fun t315 => (if t315 = true then (notaryref47_Clash.l0 k2 t274 t275 t281 t282 (wrap64 (x13_2 - 1))) else ((notaryref47_Of.f k2 t274 t275 x13_2).bind fun t316 => ((notaryref47_Of.f k2 t281 t282 x13_2).bind fun t319 => (some (t316, t319, true)))))))) = some (r1, r2, r3) := by rw [if_pos rfl] at H; exact H
  clear H
  have H := H1
  clear H1
  replace H := Option.bind_eq_some_iff.mp H
  obtain ⟨t309, A240, H⟩ := H
  replace H : ((notaryref47_Of.f k2 t281 t282 x13_2).bind fun t312 => ((notaryref01_Same.f k2 t309 t312).bind fun t315 => (if t315 = true then (notaryref47_Clash.l0 k2 t274 t275 t281 t282 (wrap64 (x13_2 - 1))) else ((notaryref47_Of.f k2 t274 t275 x13_2).bind fun t316 => ((notaryref47_Of.f k2 t281 t282 x13_2).bind fun t319 => (some (t316, t319, true))))))) = some (r1, r2, r3) := H
  have A24 := Aside0.mk A240
  clear A240
  replace H := Option.bind_eq_some_iff.mp H
  obtain ⟨t312, A250, H⟩ := H
  replace H : ((notaryref01_Same.f k2 t309 t312).bind fun t315 => (if t315 = true then (notaryref47_Clash.l0 k2 t274 t275 t281 t282 (wrap64 (x13_2 - 1))) else ((notaryref47_Of.f k2 t274 t275 x13_2).bind fun t316 => ((notaryref47_Of.f k2 t281 t282 x13_2).bind fun t319 => (some (t316, t319, true)))))) = some (r1, r2, r3) := H
  have A25 := Aside0.mk A250
  clear A250
  replace H := Option.bind_eq_some_iff.mp H
  obtain ⟨t315, A260, H⟩ := H
  replace H : (if t315 = true then (notaryref47_Clash.l0 k2 t274 t275 t281 t282 (wrap64 (x13_2 - 1))) else ((notaryref47_Of.f k2 t274 t275 x13_2).bind fun t316 => ((notaryref47_Of.f k2 t281 t282 x13_2).bind fun t319 => (some (t316, t319, true))))) = some (r1, r2, r3) := H
  have A26 := Aside0.mk A260
  clear A260
  by_cases c27 : t315 = true
  · subst c27
    have H1 : (notaryref47_Clash.l0 k2 t274 t275 t281 t282 (wrap64 (x13_2 - 1))) = some (r1, r2, r3) := by rw [if_pos rfl] at H; exact H
    clear H
    have H := H1
    clear H1
    have H' := Aside0.mk H
    clear H
    obtain ⟨Ao28, co28, eo28⟩ := Kd.S_slice HO_8.out
    subst eo28
    have p300 : 0 ≤ (x13_2 : Int) := of_decide_eq_true (by (with_reducible assumption))
    have q300 : x13_2 < (t275.length : Int) := of_decide_eq_true (by (with_reducible assumption))
    obtain ⟨ad300, A300_0, c300_0, e300, hx300_0, hl300_0, hi300_0⟩ := at_L3 (Kd.S_reads' HO_8.out).2.2 x13_2 p300 q300
    cases e300
    obtain ⟨ce300, hce300, hMe300, hcc300⟩ := Kd.S_get HO_8.out [] x13_2 p300 (by (exact q300))
    obtain ⟨ve300_0, rfl, ge300_0⟩ := hMe300
    have hv300_0 := hcc300 0 _ rfl
    rw [Nat.add_zero, show ((Kd.slice 5 (Kd.int .u8))).sz = 1 from rfl, Nat.mul_one] at hv300_0
    replace hv300_0 := Option.some.inj (hv300_0.symm.trans hx300_0)
    rw [hv300_0] at ge300_0
    have HL300_0 := Aside0.mk (show Kd.R (Kd.int .u8) 5 _ _ _ _ (rd_L3 t275 x13_2) from ge300_0)
    clear hv300_0 ge300_0
    clear hcc300 hce300
    have HR300_0 := Aside0.mk hi300_0
    have HC300_0 := Aside0.mk hl300_0
    clear hi300_0 hl300_0
    replace p300 := eq_true p300
    replace q300 := eq_true q300
    obtain ⟨Ao29, co29, eo29⟩ := Kd.S_slice HO_11.out
    subst eo29
    have p301 : 0 ≤ (x13_2 : Int) := of_decide_eq_true (by (with_reducible assumption))
    have q301 : x13_2 < (t282.length : Int) := of_decide_eq_true (by (with_reducible assumption))
    obtain ⟨ad301, A301_0, c301_0, e301, hx301_0, hl301_0, hi301_0⟩ := at_L3 (Kd.S_reads' HO_11.out).2.2 x13_2 p301 q301
    cases e301
    obtain ⟨ce301, hce301, hMe301, hcc301⟩ := Kd.S_get HO_11.out [] x13_2 p301 (by (exact q301))
    obtain ⟨ve301_0, rfl, ge301_0⟩ := hMe301
    have hv301_0 := hcc301 0 _ rfl
    rw [Nat.add_zero, show ((Kd.slice 5 (Kd.int .u8))).sz = 1 from rfl, Nat.mul_one] at hv301_0
    replace hv301_0 := Option.some.inj (hv301_0.symm.trans hx301_0)
    rw [hv301_0] at ge301_0
    have HL301_0 := Aside0.mk (show Kd.R (Kd.int .u8) 5 _ _ _ _ (rd_L3 t282 x13_2) from ge301_0)
    clear hv301_0 ge301_0
    clear hcc301 hce301
    have HR301_0 := Aside0.mk hi301_0
    have HC301_0 := Aside0.mk hl301_0
    clear hi301_0 hl301_0
    replace p301 := eq_true p301
    replace q301 := eq_true q301
    go_wp2_with (first | (go_at_call 11; (with_reducible refine (notaryref01_Same.calls k2 _ _ (rd_L3 t275 x13_2) _ _ (rd_L3 t282 x13_2) true _ ?side1 ?side2 ?side3 ?side4 A22.out).mono ?_); (case side1 => repeat (fail)); (case side2 => exact HC300_0.out); (case side3 => repeat (fail)); (case side4 => exact HC301_0.out); rintro e w' ⟨rfl, ⟨nd, rfl⟩⟩; (try first | exact ⟨rfl, _, World.drewN_drewN _ _ _⟩)))
    repeat (go_quiet (((go_at_call 11; (with_reducible refine (notaryref01_Same.calls k2 _ _ (rd_L3 t275 x13_2) _ _ (rd_L3 t282 x13_2) true _ ?side1 ?side2 ?side3 ?side4 A22.out).mono ?_); (case side1 => repeat ((exact (by repeat (first | (with_reducible exact HR300_0.out) | (with_reducible refine Kd.C_drewN ?_ _)))))); (case side2 => exact HC300_0.out); (case side3 => repeat ((exact (by repeat (first | (with_reducible exact HR301_0.out) | (with_reducible refine Kd.C_drewN ?_ _)))))); (case side4 => exact HC301_0.out); rintro e w' ⟨rfl, ⟨nd, rfl⟩⟩; (try (exact ⟨rfl, _, World.drewN_drewN _ _ _⟩))))); try go_wp2_with (first | (go_at_call 34; (with_reducible refine (notaryref47_Of.calls k2 _ _ t274 _ _ t275 x13_2 t309 _ ?side1 ?side2 ?side3 ?side4 A24.out).mono ?_); (case side1 => repeat ((exact (Kd.S_reads' HO_7.out).2.2))); (case side2 => exact (Kd.S_reads' HO_7.out).2.1); (case side3 => repeat ((exact (Kd.S_reads' HO_8.out).2.2))); (case side4 => exact (Kd.S_reads' HO_8.out).2.1); rintro e w30 ⟨v310, rfl, ho0, hb⟩; have n0_ := Aside0.mk (Kd.S_elder' (by (with_reducible repeat (apply Kd.S_drewN)); exact HO_7.out) (Kd.R_base ho0) hb); have n1_ := Aside0.mk (Kd.S_elder' (by (with_reducible repeat (apply Kd.S_drewN)); exact HO_8.out) (Kd.R_base ho0) hb); have n2_ := Aside0.mk (Kd.S_elder' (by (with_reducible repeat (apply Kd.S_drewN)); exact HO_10.out) (Kd.R_base ho0) hb); have n3_ := Aside0.mk (Kd.S_elder' (by (with_reducible repeat (apply Kd.S_drewN)); exact HO_11.out) (Kd.R_base ho0) hb); have n4_ := Aside0.mk (Kd.R_elder' (by (with_reducible repeat (apply Kd.R_drewN)); exact HL300_0.out) (Kd.R_base ho0) hb); have n5_ := Aside0.mk (Kd.R_elder' (by (with_reducible repeat (apply Kd.R_drewN)); exact HL301_0.out) (Kd.R_base ho0) hb); have n6_ := Aside0.mk (Kd.R_lower (Kd.R_new' (Kd.R_new' ho0 (Kd.R_lt (by (with_reducible repeat (apply Kd.R_drewN)); exact HL300_0.out))) (Kd.R_lt (by (with_reducible repeat (apply Kd.R_drewN)); exact HL301_0.out))) (below_size (by repeat (with_reducible first | exact HB.out | apply pw_below_drewN)))); have n7_ := Aside0.mk (Kd.C_below (by repeat (exact HR300_0.out)) hb); have n8_ := Aside0.mk (Kd.C_below (by repeat (exact HR301_0.out)) hb); have n9_ := Aside0.mk (below_step (by repeat (with_reducible first | exact HB.out | apply pw_below_drewN)) hb); clear HO_7; clear HO_8; clear HO_10; clear HO_11; clear HL300_0; clear HL301_0; clear HR300_0; clear HR301_0; clear HB; have HO_7 := n0_; have HO_8 := n1_; have HO_10 := n2_; have HO_11 := n3_; have HL300_0 := n4_; have HL301_0 := n5_; have HO311 := n6_; have HR300_0 := n7_; have HR301_0 := n8_; have HB := n9_; clear n0_ n1_ n2_ n3_ n4_ n5_ n6_ n7_ n8_ n9_; (try clear hb); (try clear ho0); obtain ⟨Ao31, co31, eo31⟩ := Kd.S_slice HO_10.out; subst eo31) | (go_at_call 34; (with_reducible refine (notaryref47_Of.calls k2 _ _ t281 _ _ t282 x13_2 t312 _ ?side1 ?side2 ?side3 ?side4 A25.out).mono ?_); (case side1 => repeat ((exact (Kd.S_reads' HO_10.out).2.2))); (case side2 => exact (Kd.S_reads' HO_10.out).2.1); (case side3 => repeat ((exact (Kd.S_reads' HO_11.out).2.2))); (case side4 => exact (Kd.S_reads' HO_11.out).2.1); rintro e w32 ⟨v313, rfl, ho0, hb⟩; have n0_ := Aside0.mk (Kd.S_elder' (by exact HO_7.out) (Kd.R_base ho0) hb); have n1_ := Aside0.mk (Kd.S_elder' (by exact HO_8.out) (Kd.R_base ho0) hb); have n2_ := Aside0.mk (Kd.S_elder' (by exact HO_10.out) (Kd.R_base ho0) hb); have n3_ := Aside0.mk (Kd.S_elder' (by exact HO_11.out) (Kd.R_base ho0) hb); have n4_ := Aside0.mk (Kd.R_elder' (by exact HL300_0.out) (Kd.R_base ho0) hb); have n5_ := Aside0.mk (Kd.R_elder' (by exact HL301_0.out) (Kd.R_base ho0) hb); have n6_ := Aside0.mk (Kd.R_elder' (by exact HO311.out) (Kd.R_base ho0) hb); have n7_ := Aside0.mk (Kd.R_lower (Kd.R_new' (Kd.R_new' (Kd.R_new' ho0 (Kd.R_lt (by exact HL300_0.out))) (Kd.R_lt (by exact HL301_0.out))) (Kd.R_lt (by exact HO311.out))) (below_size HB.out)); have n8_ := Aside0.mk (Kd.C_below (by repeat (with_reducible exact HR300_0.out)) hb); have n9_ := Aside0.mk (Kd.C_below (by repeat (with_reducible exact HR301_0.out)) hb); have n10_ := Aside0.mk (below_step HB.out hb); clear HO_7; clear HO_8; clear HO_10; clear HO_11; clear HL300_0; clear HL301_0; clear HO311; clear HR300_0; clear HR301_0; clear HB; have HO_7 := n0_; have HO_8 := n1_; have HO_10 := n2_; have HO_11 := n3_; have HL300_0 := n4_; have HL301_0 := n5_; have HO311 := n6_; have HO314 := n7_; have HR300_0 := n8_; have HR301_0 := n9_; have HB := n10_; clear n0_ n1_ n2_ n3_ n4_ n5_ n6_ n7_ n8_ n9_ n10_; (try clear hb); (try clear ho0); obtain ⟨Ao33, co33, eo33⟩ := Kd.R_slice HO311.out; subst eo33; obtain ⟨Ao34, co34, eo34⟩ := Kd.R_slice HO314.out; subst eo34) | (go_at_call 11; (with_reducible refine (notaryref01_Same.calls k2 _ _ t309 _ _ t312 true _ ?side1 ?side2 ?side3 ?side4 A26.out).mono ?_); (case side1 => repeat ((exact (Kd.R_reads' HO311.out).2.2))); (case side2 => exact (Kd.R_reads' HO311.out).2.1); (case side3 => repeat ((exact (Kd.R_reads' HO314.out).2.2))); (case side4 => exact (Kd.R_reads' HO314.out).2.1); rintro e w' ⟨rfl, ⟨nd, rfl⟩⟩; (try first | exact ⟨rfl, _, World.drewN_drewN _ _ _⟩))))
    go_roundg k2
    case measure => have := HJ4.out; have := HK2.out; omega
    case rel => exact ⟨(wrap64 (x13_2 - 1)), (by (rfl)), H', ⟨by have := HJ4.out; have := HK2.out; omega⟩, ⟨by (with_reducible repeat (apply Kd.S_drewN)); exact Kd.S_mono HO_7.out (fun _ hk => hk.1.1)⟩, ⟨by (with_reducible repeat (apply Kd.S_drewN)); exact Kd.S_mono HO_8.out (fun _ hk => hk.1.1)⟩, ⟨by (with_reducible repeat (apply Kd.S_drewN)); exact Kd.S_mono HO_10.out (fun _ hk => hk.1.1)⟩, ⟨by (with_reducible repeat (apply Kd.S_drewN)); exact Kd.S_mono HO_11.out (fun _ hk => hk.1.1)⟩, ⟨by repeat (with_reducible first | exact HB.out | apply pw_below_drewN)⟩⟩
  replace c27 := Bool.eq_false_iff.mpr c27
  subst c27
  have H1 : ((notaryref47_Of.f k2 t274 t275 x13_2).bind fun t316 => ((notaryref47_Of.f k2 t281 t282 x13_2).bind fun t319 => (some (t316, t319, true)))) = some (r1, r2, r3) := by rw [if_neg (show ¬ (false = true) by decide)] at H; exact H
  clear H
  have H := H1
  clear H1
  replace H := Option.bind_eq_some_iff.mp H
  obtain ⟨t316, A350, H⟩ := H
  replace H : ((notaryref47_Of.f k2 t281 t282 x13_2).bind fun t319 => (some (t316, t319, true))) = some (r1, r2, r3) := H
  have A35 := Aside0.mk A350
  clear A350
  replace H := Option.bind_eq_some_iff.mp H
  obtain ⟨t319, A360, H⟩ := H
  replace H : (some (t316, t319, true)) = some (r1, r2, r3) := H
  have A36 := Aside0.mk A360
  clear A360
  simp only [Option.some.injEq, Prod.mk.injEq] at H
  obtain ⟨rfl, rfl, rfl⟩ := H
  obtain ⟨Ao37, co37, eo37⟩ := Kd.S_slice HO_8.out
  subst eo37
  have p300 : 0 ≤ (x13_2 : Int) := of_decide_eq_true (by (with_reducible assumption))
  have q300 : x13_2 < (t275.length : Int) := of_decide_eq_true (by (with_reducible assumption))
  obtain ⟨ad300, A300_0, c300_0, e300, hx300_0, hl300_0, hi300_0⟩ := at_L3 (Kd.S_reads' HO_8.out).2.2 x13_2 p300 q300
  cases e300
  obtain ⟨ce300, hce300, hMe300, hcc300⟩ := Kd.S_get HO_8.out [] x13_2 p300 (by (exact q300))
  obtain ⟨ve300_0, rfl, ge300_0⟩ := hMe300
  have hv300_0 := hcc300 0 _ rfl
  rw [Nat.add_zero, show ((Kd.slice 5 (Kd.int .u8))).sz = 1 from rfl, Nat.mul_one] at hv300_0
  replace hv300_0 := Option.some.inj (hv300_0.symm.trans hx300_0)
  rw [hv300_0] at ge300_0
  have HL300_0 := Aside0.mk (show Kd.R (Kd.int .u8) 5 _ _ _ _ (rd_L3 t275 x13_2) from ge300_0)
  clear hv300_0 ge300_0
  clear hcc300 hce300
  have HR300_0 := Aside0.mk hi300_0
  have HC300_0 := Aside0.mk hl300_0
  clear hi300_0 hl300_0
  replace p300 := eq_true p300
  replace q300 := eq_true q300
  obtain ⟨Ao38, co38, eo38⟩ := Kd.S_slice HO_11.out
  subst eo38
  have p301 : 0 ≤ (x13_2 : Int) := of_decide_eq_true (by (with_reducible assumption))
  have q301 : x13_2 < (t282.length : Int) := of_decide_eq_true (by (with_reducible assumption))
  obtain ⟨ad301, A301_0, c301_0, e301, hx301_0, hl301_0, hi301_0⟩ := at_L3 (Kd.S_reads' HO_11.out).2.2 x13_2 p301 q301
  cases e301
  obtain ⟨ce301, hce301, hMe301, hcc301⟩ := Kd.S_get HO_11.out [] x13_2 p301 (by (exact q301))
  obtain ⟨ve301_0, rfl, ge301_0⟩ := hMe301
  have hv301_0 := hcc301 0 _ rfl
  rw [Nat.add_zero, show ((Kd.slice 5 (Kd.int .u8))).sz = 1 from rfl, Nat.mul_one] at hv301_0
  replace hv301_0 := Option.some.inj (hv301_0.symm.trans hx301_0)
  rw [hv301_0] at ge301_0
  have HL301_0 := Aside0.mk (show Kd.R (Kd.int .u8) 5 _ _ _ _ (rd_L3 t282 x13_2) from ge301_0)
  clear hv301_0 ge301_0
  clear hcc301 hce301
  have HR301_0 := Aside0.mk hi301_0
  have HC301_0 := Aside0.mk hl301_0
  clear hi301_0 hl301_0
  replace p301 := eq_true p301
  replace q301 := eq_true q301
  go_wp2_with (first | (go_at_call 11; (with_reducible refine (notaryref01_Same.calls k2 _ _ (rd_L3 t275 x13_2) _ _ (rd_L3 t282 x13_2) true _ ?side1 ?side2 ?side3 ?side4 A22.out).mono ?_); (case side1 => repeat (fail)); (case side2 => exact HC300_0.out); (case side3 => repeat (fail)); (case side4 => exact HC301_0.out); rintro e w' ⟨rfl, ⟨nd, rfl⟩⟩; (try first | exact ⟨rfl, _, World.drewN_drewN _ _ _⟩)))
  repeat (go_quiet (((go_at_call 11; (with_reducible refine (notaryref01_Same.calls k2 _ _ (rd_L3 t275 x13_2) _ _ (rd_L3 t282 x13_2) true _ ?side1 ?side2 ?side3 ?side4 A22.out).mono ?_); (case side1 => repeat ((exact (by repeat (first | (with_reducible exact HR300_0.out) | (with_reducible refine Kd.C_drewN ?_ _)))))); (case side2 => exact HC300_0.out); (case side3 => repeat ((exact (by repeat (first | (with_reducible exact HR301_0.out) | (with_reducible refine Kd.C_drewN ?_ _)))))); (case side4 => exact HC301_0.out); rintro e w' ⟨rfl, ⟨nd, rfl⟩⟩; (try (exact ⟨rfl, _, World.drewN_drewN _ _ _⟩))))); try go_wp2_with (first | (go_at_call 34; (with_reducible refine (notaryref47_Of.calls k2 _ _ t274 _ _ t275 x13_2 t309 _ ?side1 ?side2 ?side3 ?side4 A24.out).mono ?_); (case side1 => repeat ((exact (Kd.S_reads' HO_7.out).2.2))); (case side2 => exact (Kd.S_reads' HO_7.out).2.1); (case side3 => repeat ((exact (Kd.S_reads' HO_8.out).2.2))); (case side4 => exact (Kd.S_reads' HO_8.out).2.1); rintro e w39 ⟨v310, rfl, ho0, hb⟩; have n0_ := Aside0.mk (Kd.S_elder' (by (with_reducible repeat (apply Kd.S_drewN)); exact HO_7.out) (Kd.R_base ho0) hb); have n1_ := Aside0.mk (Kd.S_elder' (by (with_reducible repeat (apply Kd.S_drewN)); exact HO_8.out) (Kd.R_base ho0) hb); have n2_ := Aside0.mk (Kd.S_elder' (by (with_reducible repeat (apply Kd.S_drewN)); exact HO_10.out) (Kd.R_base ho0) hb); have n3_ := Aside0.mk (Kd.S_elder' (by (with_reducible repeat (apply Kd.S_drewN)); exact HO_11.out) (Kd.R_base ho0) hb); have n4_ := Aside0.mk (Kd.R_elder' (by (with_reducible repeat (apply Kd.R_drewN)); exact HL300_0.out) (Kd.R_base ho0) hb); have n5_ := Aside0.mk (Kd.R_elder' (by (with_reducible repeat (apply Kd.R_drewN)); exact HL301_0.out) (Kd.R_base ho0) hb); have n6_ := Aside0.mk (Kd.R_lower (Kd.R_new' (Kd.R_new' ho0 (Kd.R_lt (by (with_reducible repeat (apply Kd.R_drewN)); exact HL300_0.out))) (Kd.R_lt (by (with_reducible repeat (apply Kd.R_drewN)); exact HL301_0.out))) (below_size (by repeat (with_reducible first | exact HB.out | apply pw_below_drewN)))); have n7_ := Aside0.mk (Kd.C_below (by repeat (exact HR300_0.out)) hb); have n8_ := Aside0.mk (Kd.C_below (by repeat (exact HR301_0.out)) hb); have n9_ := Aside0.mk (below_step (by repeat (with_reducible first | exact HB.out | apply pw_below_drewN)) hb); clear HO_7; clear HO_8; clear HO_10; clear HO_11; clear HL300_0; clear HL301_0; clear HR300_0; clear HR301_0; clear HB; have HO_7 := n0_; have HO_8 := n1_; have HO_10 := n2_; have HO_11 := n3_; have HL300_0 := n4_; have HL301_0 := n5_; have HO311 := n6_; have HR300_0 := n7_; have HR301_0 := n8_; have HB := n9_; clear n0_ n1_ n2_ n3_ n4_ n5_ n6_ n7_ n8_ n9_; (try clear hb); (try clear ho0); obtain ⟨Ao40, co40, eo40⟩ := Kd.S_slice HO_10.out; subst eo40) | (go_at_call 34; (with_reducible refine (notaryref47_Of.calls k2 _ _ t281 _ _ t282 x13_2 t312 _ ?side1 ?side2 ?side3 ?side4 A25.out).mono ?_); (case side1 => repeat ((exact (Kd.S_reads' HO_10.out).2.2))); (case side2 => exact (Kd.S_reads' HO_10.out).2.1); (case side3 => repeat ((exact (Kd.S_reads' HO_11.out).2.2))); (case side4 => exact (Kd.S_reads' HO_11.out).2.1); rintro e w41 ⟨v313, rfl, ho0, hb⟩; have n0_ := Aside0.mk (Kd.S_elder' (by exact HO_7.out) (Kd.R_base ho0) hb); have n1_ := Aside0.mk (Kd.S_elder' (by exact HO_8.out) (Kd.R_base ho0) hb); have n2_ := Aside0.mk (Kd.S_elder' (by exact HO_10.out) (Kd.R_base ho0) hb); have n3_ := Aside0.mk (Kd.S_elder' (by exact HO_11.out) (Kd.R_base ho0) hb); have n4_ := Aside0.mk (Kd.R_elder' (by exact HL300_0.out) (Kd.R_base ho0) hb); have n5_ := Aside0.mk (Kd.R_elder' (by exact HL301_0.out) (Kd.R_base ho0) hb); have n6_ := Aside0.mk (Kd.R_elder' (by exact HO311.out) (Kd.R_base ho0) hb); have n7_ := Aside0.mk (Kd.R_lower (Kd.R_new' (Kd.R_new' (Kd.R_new' ho0 (Kd.R_lt (by exact HL300_0.out))) (Kd.R_lt (by exact HL301_0.out))) (Kd.R_lt (by exact HO311.out))) (below_size HB.out)); have n8_ := Aside0.mk (Kd.C_below (by repeat (with_reducible exact HR300_0.out)) hb); have n9_ := Aside0.mk (Kd.C_below (by repeat (with_reducible exact HR301_0.out)) hb); have n10_ := Aside0.mk (below_step HB.out hb); clear HO_7; clear HO_8; clear HO_10; clear HO_11; clear HL300_0; clear HL301_0; clear HO311; clear HR300_0; clear HR301_0; clear HB; have HO_7 := n0_; have HO_8 := n1_; have HO_10 := n2_; have HO_11 := n3_; have HL300_0 := n4_; have HL301_0 := n5_; have HO311 := n6_; have HO314 := n7_; have HR300_0 := n8_; have HR301_0 := n9_; have HB := n10_; clear n0_ n1_ n2_ n3_ n4_ n5_ n6_ n7_ n8_ n9_ n10_; (try clear hb); (try clear ho0); obtain ⟨Ao42, co42, eo42⟩ := Kd.R_slice HO311.out; subst eo42; obtain ⟨Ao43, co43, eo43⟩ := Kd.R_slice HO314.out; subst eo43) | (go_at_call 11; (with_reducible refine (notaryref01_Same.calls k2 _ _ t309 _ _ t312 false _ ?side1 ?side2 ?side3 ?side4 A26.out).mono ?_); (case side1 => repeat ((exact (Kd.R_reads' HO311.out).2.2))); (case side2 => exact (Kd.R_reads' HO311.out).2.1); (case side3 => repeat ((exact (Kd.R_reads' HO314.out).2.2))); (case side4 => exact (Kd.R_reads' HO314.out).2.1); rintro e w' ⟨rfl, ⟨nd, rfl⟩⟩; (try first | exact ⟨rfl, _, World.drewN_drewN _ _ _⟩)) | (go_at_call 34; (with_reducible refine (notaryref47_Of.calls k2 _ _ t274 _ _ t275 x13_2 t316 _ ?side1 ?side2 ?side3 ?side4 A35.out).mono ?_); (case side1 => repeat ((exact (Kd.S_reads' HO_7.out).2.2))); (case side2 => exact (Kd.S_reads' HO_7.out).2.1); (case side3 => repeat ((exact (Kd.S_reads' HO_8.out).2.2))); (case side4 => exact (Kd.S_reads' HO_8.out).2.1); rintro e w44 ⟨v317, rfl, ho0, hb⟩; have n0_ := Aside0.mk (Kd.S_elder' (by (with_reducible repeat (apply Kd.S_drewN)); exact HO_7.out) (Kd.R_base ho0) hb); have n1_ := Aside0.mk (Kd.S_elder' (by (with_reducible repeat (apply Kd.S_drewN)); exact HO_8.out) (Kd.R_base ho0) hb); have n2_ := Aside0.mk (Kd.S_elder' (by (with_reducible repeat (apply Kd.S_drewN)); exact HO_10.out) (Kd.R_base ho0) hb); have n3_ := Aside0.mk (Kd.S_elder' (by (with_reducible repeat (apply Kd.S_drewN)); exact HO_11.out) (Kd.R_base ho0) hb); have n4_ := Aside0.mk (Kd.R_elder' (by (with_reducible repeat (apply Kd.R_drewN)); exact HL300_0.out) (Kd.R_base ho0) hb); have n5_ := Aside0.mk (Kd.R_elder' (by (with_reducible repeat (apply Kd.R_drewN)); exact HL301_0.out) (Kd.R_base ho0) hb); have n6_ := Aside0.mk (Kd.R_elder' (by (with_reducible repeat (apply Kd.R_drewN)); exact HO311.out) (Kd.R_base ho0) hb); have n7_ := Aside0.mk (Kd.R_elder' (by (with_reducible repeat (apply Kd.R_drewN)); exact HO314.out) (Kd.R_base ho0) hb); have n8_ := Aside0.mk (Kd.R_lower (Kd.R_new' (Kd.R_new' (Kd.R_new' (Kd.R_new' ho0 (Kd.R_lt (by (with_reducible repeat (apply Kd.R_drewN)); exact HL300_0.out))) (Kd.R_lt (by (with_reducible repeat (apply Kd.R_drewN)); exact HL301_0.out))) (Kd.R_lt (by (with_reducible repeat (apply Kd.R_drewN)); exact HO311.out))) (Kd.R_lt (by (with_reducible repeat (apply Kd.R_drewN)); exact HO314.out))) (below_size (by repeat (with_reducible first | exact HB.out | apply pw_below_drewN)))); have n9_ := Aside0.mk (Kd.C_below (by repeat (exact HR300_0.out)) hb); have n10_ := Aside0.mk (Kd.C_below (by repeat (exact HR301_0.out)) hb); have n11_ := Aside0.mk (below_step (by repeat (with_reducible first | exact HB.out | apply pw_below_drewN)) hb); clear HO_7; clear HO_8; clear HO_10; clear HO_11; clear HL300_0; clear HL301_0; clear HO311; clear HO314; clear HR300_0; clear HR301_0; clear HB; have HO_7 := n0_; have HO_8 := n1_; have HO_10 := n2_; have HO_11 := n3_; have HL300_0 := n4_; have HL301_0 := n5_; have HO311 := n6_; have HO314 := n7_; have HO318 := n8_; have HR300_0 := n9_; have HR301_0 := n10_; have HB := n11_; clear n0_ n1_ n2_ n3_ n4_ n5_ n6_ n7_ n8_ n9_ n10_ n11_; (try clear hb); (try clear ho0)) | (go_at_call 34; (with_reducible refine (notaryref47_Of.calls k2 _ _ t281 _ _ t282 x13_2 t319 _ ?side1 ?side2 ?side3 ?side4 A36.out).mono ?_); (case side1 => repeat ((exact (Kd.S_reads' HO_10.out).2.2))); (case side2 => exact (Kd.S_reads' HO_10.out).2.1); (case side3 => repeat ((exact (Kd.S_reads' HO_11.out).2.2))); (case side4 => exact (Kd.S_reads' HO_11.out).2.1); rintro e w45 ⟨v320, rfl, ho0, hb⟩; have n0_ := Aside0.mk (Kd.S_elder' (by exact HO_7.out) (Kd.R_base ho0) hb); have n1_ := Aside0.mk (Kd.S_elder' (by exact HO_8.out) (Kd.R_base ho0) hb); have n2_ := Aside0.mk (Kd.S_elder' (by exact HO_10.out) (Kd.R_base ho0) hb); have n3_ := Aside0.mk (Kd.S_elder' (by exact HO_11.out) (Kd.R_base ho0) hb); have n4_ := Aside0.mk (Kd.R_elder' (by exact HL300_0.out) (Kd.R_base ho0) hb); have n5_ := Aside0.mk (Kd.R_elder' (by exact HL301_0.out) (Kd.R_base ho0) hb); have n6_ := Aside0.mk (Kd.R_elder' (by exact HO311.out) (Kd.R_base ho0) hb); have n7_ := Aside0.mk (Kd.R_elder' (by exact HO314.out) (Kd.R_base ho0) hb); have n8_ := Aside0.mk (Kd.R_elder' (by exact HO318.out) (Kd.R_base ho0) hb); have n9_ := Aside0.mk (Kd.R_lower (Kd.R_new' (Kd.R_new' (Kd.R_new' (Kd.R_new' (Kd.R_new' ho0 (Kd.R_lt (by exact HL300_0.out))) (Kd.R_lt (by exact HL301_0.out))) (Kd.R_lt (by exact HO311.out))) (Kd.R_lt (by exact HO314.out))) (Kd.R_lt (by exact HO318.out))) (below_size HB.out)); have n10_ := Aside0.mk (Kd.C_below (by repeat (with_reducible exact HR300_0.out)) hb); have n11_ := Aside0.mk (Kd.C_below (by repeat (with_reducible exact HR301_0.out)) hb); have n12_ := Aside0.mk (below_step HB.out hb); clear HO_7; clear HO_8; clear HO_10; clear HO_11; clear HL300_0; clear HL301_0; clear HO311; clear HO314; clear HO318; clear HR300_0; clear HR301_0; clear HB; have HO_7 := n0_; have HO_8 := n1_; have HO_10 := n2_; have HO_11 := n3_; have HL300_0 := n4_; have HL301_0 := n5_; have HO311 := n6_; have HO314 := n7_; have HO318 := n8_; have HO321 := n9_; have HR300_0 := n10_; have HR301_0 := n11_; have HB := n12_; clear n0_ n1_ n2_ n3_ n4_ n5_ n6_ n7_ n8_ n9_ n10_ n11_ n12_; (try clear hb); (try clear ho0))))
  go_ret3
  exact ⟨_, _, by (rfl), by exact Kd.R_mono HO318.out (fun _ hk => hk.2), by exact Kd.R_mono HO321.out (fun _ hk => hk.2), HB.out⟩
end Go.Proofs.Ytnkkgeglnmggpaa.PCc
