-- SLIM: a printed text of which the unused ways are cut off
-- PRINTED by print.py (a twelfth state) out of the translation. Not trusted: Lean checks it.
import Derived.Test.YtnkkgeglnmggpaaPCrx0
import Derived.Test.YtnkkgeglnmggpaaPCrx5
import Derived.Test.YtnkkgeglnmggpaaPCrx7
import Derived.Test.YtnkkgeglnmggpaaPCrx13
import Derived.Test.YtnkkgeglnmggpaaPCrx14
namespace Go.Proofs.Ytnkkgeglnmggpaa.PCr
open Go.RowKit Go.Proofs.YtnkkgeglnmggpaaW.PrintWords Go.Proofs.YtnkkgeglnmggpaaW.PrintLast Go.Proofs.YtnkkgeglnmggpaaW.PrintMore
attribute [local go_sem] max2_int min2_int max_two min_two max_three min_three max_four min_four
set_option linter.unusedVariables false
set_option linter.unusedSimpArgs false

/-! ### notarylaw47_ChainReads: function 3 -/
mutual
def notarylaw47_ChainReads.j0 : Nat → List Int → List Int → List Int → Bool → Option (Bool)
  | 0, _, _, _, _ => none
  | k + 1, x0, x1, x2, x21 => if x21 = true then ((notarylaw47_awake.f k).bind fun t470 => (some t470)) else ((chain_Entries.f k x0 x1).bind fun bt471 => ((notaryref47_Entries.f k x0 x1).bind fun bt478 => (if bt471.2.2 = bt478.2.2 then ((notaryref46_Alike.f k bt471.1 bt478.1).bind fun t485 => (if t485 = true then ((notaryref01_Same.f k bt471.2.1 bt478.2.1).bind fun t486 => (notarylaw47_ChainReads.j1 k x0 x1 x2 bt471.2.1 (!t486))) else (notarylaw47_ChainReads.j1 k x0 x1 x2 bt471.2.1 true))) else (notarylaw47_ChainReads.j1 k x0 x1 x2 bt471.2.1 true))))
def notarylaw47_ChainReads.j1 : Nat → List Int → List Int → List Int → List Int → Bool → Option (Bool)
  | 0, _, _, _, _, _ => none
  | k + 1, x0, x1, x2, x8, x51 => if x51 = true then (some false) else (notarylaw47_ChainReads.l0 k x0 x1 x2 x8 0)
def notarylaw47_ChainReads.l0 : Nat → List Int → List Int → List Int → List Int → Int → Option (Bool)
  | 0, _, _, _, _, _ => none
  | k + 1, x0, x1, x2, x8, x13 => if x13 < 3 then ((chain_Verify.f k x0 x1 x13 x2).bind fun t488 => ((notaryref47_Verify.f k x0 x1 x13 x2).bind fun t489 => (if (t488 != t489) = true then (some false) else ((chain_Verify.f k x0 x1 x13 x8).bind fun t490 => ((notaryref47_Verify.f k x0 x1 x13 x8).bind fun t491 => (if (t490 != t491) = true then (some false) else (notarylaw47_ChainReads.l0 k x0 x1 x2 x8 (wrap64 (x13 + 1))))))))) else ((notarylaw47_awake.f k).bind fun t487 => (some t487))
end
def notarylaw47_ChainReads.f (k : Nat) (l0 : List Int) (l1 : List Int) (l2 : List Int) : Option (Bool) := if (l0.length : Int) > 200 then (notarylaw47_ChainReads.j0 k l0 l1 l2 true) else (notarylaw47_ChainReads.j0 k l0 l1 l2 (decide ((l1.length : Int) > 3000)))
theorem notarylaw47_ChainReads.mono_l : ∀ k, (∀ y0 y1 y2 y3, LeO (notarylaw47_ChainReads.j0 k y0 y1 y2 y3) (notarylaw47_ChainReads.j0 (k + 1) y0 y1 y2 y3)) ∧ (∀ y0 y1 y2 y3 y4, LeO (notarylaw47_ChainReads.j1 k y0 y1 y2 y3 y4) (notarylaw47_ChainReads.j1 (k + 1) y0 y1 y2 y3 y4)) ∧ (∀ y0 y1 y2 y3 y4, LeO (notarylaw47_ChainReads.l0 k y0 y1 y2 y3 y4) (notarylaw47_ChainReads.l0 (k + 1) y0 y1 y2 y3 y4))
  | 0 => ⟨fun _ _ _ _ r h => by simp [notarylaw47_ChainReads.j0] at h, fun _ _ _ _ _ r h => by simp [notarylaw47_ChainReads.j1] at h, fun _ _ _ _ _ r h => by simp [notarylaw47_ChainReads.l0] at h⟩
  | k + 1 => by
    obtain ⟨ih0, ih1, ih2⟩ := notarylaw47_ChainReads.mono_l k
    refine ⟨?_, ?_, ?_⟩
    · intro y0 y1 y2 y3
      unfold notarylaw47_ChainReads.j0
      repeat' first | (with_reducible exact ih1 _ _ _ _ _) | (with_reducible exact chain_Entries.mono _ _ _) | (with_reducible exact notarylaw47_awake.mono _) | (with_reducible exact notaryref01_Same.mono _ _ _) | (with_reducible exact notaryref46_Alike.mono _ _ _) | (with_reducible exact notaryref47_Entries.mono _ _ _) | (with_reducible exact LeO.refl _) | (with_reducible refine LeO.ite ?_ ?_) | (with_reducible refine LeO.bind ?_ (fun _ => ?_))
    · intro y0 y1 y2 y3 y4
      unfold notarylaw47_ChainReads.j1
      repeat' first | (with_reducible exact ih2 _ _ _ _ _) | (with_reducible exact LeO.refl _) | (with_reducible refine LeO.ite ?_ ?_)
    · intro y0 y1 y2 y3 y4
      unfold notarylaw47_ChainReads.l0
      repeat' first | (with_reducible exact ih2 _ _ _ _ _) | (with_reducible exact chain_Verify.mono _ _ _ _ _) | (with_reducible exact notarylaw47_awake.mono _) | (with_reducible exact notaryref47_Verify.mono _ _ _ _ _) | (with_reducible exact LeO.refl _) | (with_reducible refine LeO.ite ?_ ?_) | (with_reducible refine LeO.bind ?_ (fun _ => ?_))
theorem notarylaw47_ChainReads.mono : ∀ a0 a1 a2 k, LeO (notarylaw47_ChainReads.f k a0 a1 a2) (notarylaw47_ChainReads.f (k + 1) a0 a1 a2) := by
  intro a0 a1 a2 k
  obtain ⟨ih0, ih1, ih2⟩ := notarylaw47_ChainReads.mono_l k
  unfold notarylaw47_ChainReads.f
  repeat' first | (with_reducible exact ih0 _ _ _ _) | (with_reducible refine LeO.ite ?_ ?_)
set_option maxHeartbeats 8000000 in
set_option maxRecDepth 100000 in
theorem notarylaw47_ChainReads.calls (k : Nat) (A0 : Option Addr) (c0 : Nat) (l0 : List Int) (A1 : Option Addr) (c1 : Nat) (l1 : List Int) (A2 : Option Addr) (c2 : Nat) (l2 : List Int) (r : Bool) (w : World) (hr0 : Kd.C (Kd.int .u8) w A0 l0.length l0) (hc0 : l0.length ≤ c0) (hr1 : Kd.C (Kd.int .u8) w A1 l1.length l1) (hc1 : l1.length ≤ c1) (hr2 : Kd.C (Kd.int .u8) w A2 l2.length l2) (hc2 : l2.length ≤ c2) (h : notarylaw47_ChainReads.f k l0 l1 l2 = some r) :
    Calls Try.prog 3 #[.slice A0 l0.length c0, .slice A1 l1.length c1, .slice A2 l2.length c2] w fun e w' => e = .returned (.bool r) ∧ Below w.heap.size w w' := by
  have HR0 := Aside0.mk hr0
  have HC0 := Aside0.mk hc0
  clear hr0 hc0
  have HR1 := Aside0.mk hr1
  have HC1 := Aside0.mk hc1
  clear hr1 hc1
  have HR2 := Aside0.mk hr2
  have HC2 := Aside0.mk hc2
  clear hr2 hc2
  have HB := Aside0.mk (Below.refl w.heap.size w)
  have H : (if (l0.length : Int) > 200 then (notarylaw47_ChainReads.j0 k l0 l1 l2 true) else (notarylaw47_ChainReads.j0 k l0 l1 l2 (decide ((l1.length : Int) > 3000)))) = some r := h
  clear h
  have HC4 := Aside0.mk H
  clear H
  go_enter Try.func3, Try.ntmps3
  go_upto_region 1 with (fail)
  go_cut [21] (fun v21 wc => ∃ (kq : Nat) (x21_3 : Bool), v21 = .bool x21_3 ∧ Aside0 (notarylaw47_ChainReads.j0 kq l0 l1 l2 x21_3 = some r) ∧ Aside0 (kq ≤ k) ∧ Aside0 (Below w.heap.size w wc))
  case first =>
    have H := HC4.out
    clear HC4
    by_cases c5 : (l0.length : Int) > 200
    · rw [if_pos c5] at H
      have c5b0 : decide (200 < (l0.length : Int)) = true := decide_eq_true c5
      have c5b1 : decide (200 < l0.length) = true := decide_eq_true (by omega)
      clear c5
      (skip)
      have H' := Aside0.mk H
      clear H
      go_wp2
      go_meet
      case rel => exact ⟨_, (true), (by (rfl)), H', ⟨by (omega)⟩, ⟨HB.out⟩⟩
    rw [if_neg c5] at H
    have c5b0 : decide (200 < (l0.length : Int)) = false := decide_eq_false c5
    have c5b1 : decide (200 < l0.length) = false := decide_eq_false (by omega)
    clear c5
    (skip)
    have H' := Aside0.mk H
    clear H
    go_wp2
    go_meet
    case rel => exact ⟨_, (decide ((l1.length : Int) > 3000)), (by (rfl)), H', ⟨by (omega)⟩, ⟨HB.out⟩⟩
  clear HC4
  obtain ⟨kq, x21_3, rfl, HA, HJ3, HB⟩ := hcut
  rcases kq with _ | kj3
  · exact absurd HA.out (by simp [notarylaw47_ChainReads.j0])
  have H := HA.out
  clear HA
  simp only [notarylaw47_ChainReads.j0] at H
  by_cases c6 : x21_3 = true
  · subst c6
    have H1 : ((notarylaw47_awake.f kj3).bind fun t470 => (some t470)) = some r := by rw [if_pos rfl] at H; exact H
    clear H
    have H := H1
    clear H1
    replace H := Option.bind_eq_some_iff.mp H
    obtain ⟨t470, A70, H⟩ := H
    replace H : (some t470) = some r := H
    have A7 := Aside0.mk A70
    clear A70
    obtain rfl := Option.some.inj H
    go_wp2_with ((((with_reducible refine gate_callee (f := 7) rfl ?_); refine goesL_ (some 22) rfl rfl Try.func7 (by kernel_rfl) rfl #[] rfl (by (try simp only [List.map_toArray, List.map_cons, List.map_nil]); (done)) ?_; (with_reducible refine (notarylaw47_awake.calls kj3  t470 _ A7.out).mono ?_); rintro e w8 ⟨rfl, hb⟩; refine ⟨_, rfl, ?_⟩; have n0_ := Aside0.mk (below_step HB.out hb); clear HB; have HB := n0_; clear n0_; (try clear hb); (skip))))
    go_ret
    exact ⟨by (rfl), HB.out⟩
  replace c6 := Bool.eq_false_iff.mpr c6
  subst c6
  have H1 : ((chain_Entries.f kj3 l0 l1).bind fun bt471 => ((notaryref47_Entries.f kj3 l0 l1).bind fun bt478 => (if bt471.2.2 = bt478.2.2 then ((notaryref46_Alike.f kj3 bt471.1 bt478.1).bind fun t485 => (if t485 = true then ((notaryref01_Same.f kj3 bt471.2.1 bt478.2.1).bind fun t486 => (notarylaw47_ChainReads.j1 kj3 l0 l1 l2 bt471.2.1 (!t486))) else (notarylaw47_ChainReads.j1 kj3 l0 l1 l2 bt471.2.1 true))) else (notarylaw47_ChainReads.j1 kj3 l0 l1 l2 bt471.2.1 true)))) = some r := by rw [if_neg (show ¬ (false = true) by decide)] at H; exact H
  clear H
  have H := H1
  clear H1
  replace H := Option.bind_eq_some_iff.mp H
  obtain ⟨⟨t471, t474, t477⟩, A90, H⟩ := H
  replace H : ((notaryref47_Entries.f kj3 l0 l1).bind fun bt478 => (if t477 = bt478.2.2 then ((notaryref46_Alike.f kj3 t471 bt478.1).bind fun t485 => (if t485 = true then ((notaryref01_Same.f kj3 t474 bt478.2.1).bind fun t486 => (notarylaw47_ChainReads.j1 kj3 l0 l1 l2 t474 (!t486))) else (notarylaw47_ChainReads.j1 kj3 l0 l1 l2 t474 true))) else (notarylaw47_ChainReads.j1 kj3 l0 l1 l2 t474 true))) = some r := H
  have A9 := Aside0.mk A90
  clear A90
  replace H := Option.bind_eq_some_iff.mp H
  obtain ⟨⟨t478, t481, t484⟩, A100, H⟩ := H
  replace H : (if t477 = t484 then ((notaryref46_Alike.f kj3 t471 t478).bind fun t485 => (if t485 = true then ((notaryref01_Same.f kj3 t474 t481).bind fun t486 => (notarylaw47_ChainReads.j1 kj3 l0 l1 l2 t474 (!t486))) else (notarylaw47_ChainReads.j1 kj3 l0 l1 l2 t474 true))) else (notarylaw47_ChainReads.j1 kj3 l0 l1 l2 t474 true)) = some r := H
  have A10 := Aside0.mk A100
  clear A100
  have HC11 := Aside0.mk H
  clear H
  go_upto_region 5 with (first | ((with_reducible refine gate_callee (f := 8) rfl ?_); refine goesL_ (some 26) rfl rfl Try.func8 (by kernel_rfl) rfl #[.slice A0 l0.length c0, .slice A1 l1.length c1] rfl (by (try simp only [List.map_toArray, List.map_cons, List.map_nil]); (rfl)) ?_; (with_reducible refine (chain_Entries.calls kj3 _ _ l0 _ _ l1 t471 t474 t477 _ ?side1 ?side2 ?side3 ?side4 A9.out).mono ?_); (case side1 => exact Kd.C_below HR0.out HB.out); (case side2 => exact HC0.out); (case side3 => exact Kd.C_below HR1.out HB.out); (case side4 => exact HC1.out); rintro e w12 ⟨v472, v475, rfl, ho0, ho1, hb⟩; refine ⟨_, rfl, ?_⟩; have n0_ := Aside0.mk (Kd.V_lower (Kd.V_mono (ok' := fun k_ => True) ho0 (fun k_ hk_ => trivial)) (below_size HB.out)); have n1_ := Aside0.mk (Kd.V_lower (Kd.V_mono (ok' := fun k_ => True) ho1 (fun k_ hk_ => trivial)) (below_size HB.out)); have n2_ := Aside0.mk (below_step HB.out hb); clear HB; have HO473 := n0_; have HO476 := n1_; have HB := n2_; clear n0_ n1_ n2_; (try clear hb); (try clear ho0); (try clear ho1)) | ((with_reducible refine gate_callee (f := 9) rfl ?_); refine goesL_ (some 33) rfl rfl Try.func9 (by kernel_rfl) rfl #[.slice A0 l0.length c0, .slice A1 l1.length c1] rfl (by (try simp only [List.map_toArray, List.map_cons, List.map_nil]); (rfl)) ?_; (with_reducible refine (notaryref47_Entries.calls kj3 _ _ l0 _ _ l1 t478 t481 t484 _ ?side1 ?side2 ?side3 ?side4 A10.out).mono ?_); (case side1 => exact Kd.C_below HR0.out HB.out); (case side2 => exact HC0.out); (case side3 => exact Kd.C_below HR1.out HB.out); (case side4 => exact HC1.out); rintro e w13 ⟨v479, v482, rfl, ho0, ho1, hb⟩; refine ⟨_, rfl, ?_⟩; have n0_ := Aside0.mk (Kd.V_below (by exact HO473.out) hb); have n1_ := Aside0.mk (Kd.V_below (by exact HO476.out) hb); have n2_ := Aside0.mk (Kd.V_lower (Kd.V_mono (ok' := fun k_ => True) ho0 (fun k_ hk_ => trivial)) (below_size HB.out)); have n3_ := Aside0.mk (Kd.V_lower (Kd.V_mono (ok' := fun k_ => True) ho1 (fun k_ hk_ => trivial)) (below_size HB.out)); have n4_ := Aside0.mk (below_step HB.out hb); clear HO473; clear HO476; clear HB; have HO473 := n0_; have HO476 := n1_; have HO480 := n2_; have HO483 := n3_; have HB := n4_; clear n0_ n1_ n2_ n3_ n4_; (try clear hb); (try clear ho0); (try clear ho1)))
  (skip)
  go_cut [51] (fun v51 wc => ∃ (kq : Nat) (x51_10 : Bool), v51 = .bool x51_10 ∧ Aside0 (notarylaw47_ChainReads.j1 kq l0 l1 l2 t474 x51_10 = some r) ∧ Aside0 (kq ≤ kj3) ∧ Aside0 (Kd.V (Kd.int .u8) 5 wc w.heap.size (fun _ => True) v475 t474) ∧ Aside0 (Below w.heap.size w wc))
  case first =>
    have H := HC11.out
    clear HC11
    by_cases c14 : t477 = t484
    rotate_left
    · rw [if_neg c14] at H
      have c14b0 : (t477 == t484) = false := beq_eq_false_iff_ne.mpr c14
      have c14b1 : (t477 != t484) = true := bne_iff_ne.mpr c14
      (skip)
      have H' := Aside0.mk H
      clear H
      go_wp2
      go_meet
      case rel => exact ⟨_, (true), (by (rfl)), H', ⟨by have := HJ3.out; (omega)⟩, ⟨by exact HO476.out⟩, ⟨HB.out⟩⟩
    rw [if_pos c14] at H
    have c14b0 : (t477 == t484) = true := beq_iff_eq.mpr c14
    have c14b1 : (t477 != t484) = false := bne_eq_false_iff_eq.mpr c14
    clear c14
    (skip)
    replace H := Option.bind_eq_some_iff.mp H
    obtain ⟨t485, A150, H⟩ := H
    replace H : (if t485 = true then ((notaryref01_Same.f kj3 t474 t481).bind fun t486 => (notarylaw47_ChainReads.j1 kj3 l0 l1 l2 t474 (!t486))) else (notarylaw47_ChainReads.j1 kj3 l0 l1 l2 t474 true)) = some r := H
    have A15 := Aside0.mk A150
    clear A150
    by_cases c16 : t485 = true
    rotate_left
    · replace c16 := Bool.eq_false_iff.mpr c16
      subst c16
      have H1 : (notarylaw47_ChainReads.j1 kj3 l0 l1 l2 t474 true) = some r := by rw [if_neg (show ¬ (false = true) by decide)] at H; exact H
      clear H
      have H := H1
      clear H1
      have H' := Aside0.mk H
      clear H
      obtain ⟨Ao23, co23, eo23⟩ := Kd.V_slice HO473.out
      subst eo23
      obtain ⟨Ao24, co24, eo24⟩ := Kd.V_slice HO480.out
      subst eo24
      go_wp2_with (((go_at_call 10; (with_reducible refine (notaryref46_Alike.calls kj3 _ _ t471 _ _ t478 false _ ?side1 ?side2 ?side3 ?side4 A15.out).mono ?_); (case side1 => repeat ((exact (Kd.V_reads' HO473.out).2.2))); (case side2 => exact (Kd.V_reads' HO473.out).2.1); (case side3 => repeat ((exact (Kd.V_reads' HO480.out).2.2))); (case side4 => exact (Kd.V_reads' HO480.out).2.1); rintro e w25 ⟨rfl, hb⟩; have n0_ := Aside0.mk (Kd.V_below (by exact HO473.out) hb); have n1_ := Aside0.mk (Kd.V_below (by exact HO476.out) hb); have n2_ := Aside0.mk (Kd.V_below (by exact HO480.out) hb); have n3_ := Aside0.mk (Kd.V_below (by exact HO483.out) hb); have n4_ := Aside0.mk (below_step HB.out hb); clear HO473; clear HO476; clear HO480; clear HO483; clear HB; have HO473 := n0_; have HO476 := n1_; have HO480 := n2_; have HO483 := n3_; have HB := n4_; clear n0_ n1_ n2_ n3_ n4_; (try clear hb); (skip))))
      go_meet
      case rel => exact ⟨_, (true), (by (rfl)), H', ⟨by have := HJ3.out; (omega)⟩, ⟨by exact HO476.out⟩, ⟨HB.out⟩⟩
    subst c16
    have H1 : ((notaryref01_Same.f kj3 t474 t481).bind fun t486 => (notarylaw47_ChainReads.j1 kj3 l0 l1 l2 t474 (!t486))) = some r := by rw [if_pos rfl] at H; exact H
    clear H
    have H := H1
    clear H1
    replace H := Option.bind_eq_some_iff.mp H
    obtain ⟨t486, A170, H⟩ := H
    replace H : (notarylaw47_ChainReads.j1 kj3 l0 l1 l2 t474 (!t486)) = some r := H
    have A17 := Aside0.mk A170
    clear A170
    have H' := Aside0.mk H
    clear H
    obtain ⟨Ao18, co18, eo18⟩ := Kd.V_slice HO473.out
    subst eo18
    obtain ⟨Ao19, co19, eo19⟩ := Kd.V_slice HO480.out
    subst eo19
    go_wp2_with (first | (go_at_call 10; (with_reducible refine (notaryref46_Alike.calls kj3 _ _ t471 _ _ t478 true _ ?side1 ?side2 ?side3 ?side4 A15.out).mono ?_); (case side1 => repeat ((exact (Kd.V_reads' HO473.out).2.2))); (case side2 => exact (Kd.V_reads' HO473.out).2.1); (case side3 => repeat ((exact (Kd.V_reads' HO480.out).2.2))); (case side4 => exact (Kd.V_reads' HO480.out).2.1); rintro e w20 ⟨rfl, hb⟩; have n0_ := Aside0.mk (Kd.V_below (by exact HO473.out) hb); have n1_ := Aside0.mk (Kd.V_below (by exact HO476.out) hb); have n2_ := Aside0.mk (Kd.V_below (by exact HO480.out) hb); have n3_ := Aside0.mk (Kd.V_below (by exact HO483.out) hb); have n4_ := Aside0.mk (below_step HB.out hb); clear HO473; clear HO476; clear HO480; clear HO483; clear HB; have HO473 := n0_; have HO476 := n1_; have HO480 := n2_; have HO483 := n3_; have HB := n4_; clear n0_ n1_ n2_ n3_ n4_; (try clear hb); obtain ⟨Ao21, co21, eo21⟩ := Kd.V_slice HO476.out; subst eo21; obtain ⟨Ao22, co22, eo22⟩ := Kd.V_slice HO483.out; subst eo22) | (go_at_call 11; (with_reducible refine (notaryref01_Same.calls kj3 _ _ t474 _ _ t481 t486 _ ?side1 ?side2 ?side3 ?side4 A17.out).mono ?_); (case side1 => repeat ((exact (Kd.V_reads' HO476.out).2.2))); (case side2 => exact (Kd.V_reads' HO476.out).2.1); (case side3 => repeat ((exact (Kd.V_reads' HO483.out).2.2))); (case side4 => exact (Kd.V_reads' HO483.out).2.1); rintro e w' ⟨rfl, ⟨nd, rfl⟩⟩))
    go_meet
    case rel => exact ⟨_, (!t486), (by (rfl)), H', ⟨by have := HJ3.out; (omega)⟩, ⟨by (with_reducible repeat (apply Kd.V_drewN)); exact HO476.out⟩, ⟨by repeat (with_reducible first | exact HB.out | apply pw_below_drewN)⟩⟩
  clear HC11
  obtain ⟨kq, x51_10, rfl, HA, HJ10, HO_8, HB⟩ := hcut
  rcases kq with _ | kj10
  · exact absurd HA.out (by simp [notarylaw47_ChainReads.j1])
  have H := HA.out
  clear HA
  simp only [notarylaw47_ChainReads.j1] at H
  by_cases c26 : x51_10 = true
  · subst c26
    have H1 : (some false) = some r := by rw [if_pos rfl] at H; exact H
    clear H
    have H := H1
    clear H1
    obtain rfl := Option.some.inj H
    go_wp2
    go_ret
    exact ⟨by (rfl), HB.out⟩
  replace c26 := Bool.eq_false_iff.mpr c26
  subst c26
  have H1 : (notarylaw47_ChainReads.l0 kj10 l0 l1 l2 t474 0) = some r := by rw [if_neg (show ¬ (false = true) by decide)] at H; exact H
  clear H
  have H := H1
  clear H1
  have H' := Aside0.mk H
  clear H
  go_wp2
  go_loopg [13] kj10 (fun kq v13 w' => ∃ (x13_3 : Int), v13 = .int .i64 x13_3 ∧ Aside0 (notarylaw47_ChainReads.l0 kq l0 l1 l2 t474 x13_3 = some r) ∧ Aside0 (kq ≤ kj10) ∧ Aside0 (Kd.V (Kd.int .u8) 5 w' w.heap.size (fun _ => True) v475 t474) ∧ Aside0 (Below w.heap.size w w'))
  case atStart => exact ⟨(0), (by (rfl)), H', ⟨Nat.le_refl _⟩, ⟨by exact HO_8.out⟩, ⟨HB.out⟩⟩
  clear H'
  obtain ⟨x13_3, rfl, HA, HK3, HO_8, HB⟩ := hrel
  rcases gk with _ | k3
  · exact absurd HA.out (by simp [notarylaw47_ChainReads.l0])
  have H := HA.out
  clear HA
  simp only [notarylaw47_ChainReads.l0] at H
  by_cases c27 : x13_3 < 3
  rotate_left
  · rw [if_neg c27] at H
    have c27b0 : decide (x13_3 < 3) = false := decide_eq_false c27
    clear c27
    replace H := Option.bind_eq_some_iff.mp H
    obtain ⟨t487, A460, H⟩ := H
    replace H : (some t487) = some r := H
    have A46 := Aside0.mk A460
    clear A460
    obtain rfl := Option.some.inj H
    go_wp2_with ((((with_reducible refine gate_callee (f := 7) rfl ?_); refine goesL_ (some 80) rfl rfl Try.func7 (by kernel_rfl) rfl #[] rfl (by (try simp only [List.map_toArray, List.map_cons, List.map_nil]); (done)) ?_; (with_reducible refine (notarylaw47_awake.calls k3  t487 _ A46.out).mono ?_); rintro e w47 ⟨rfl, hb⟩; refine ⟨_, rfl, ?_⟩; have n0_ := Aside0.mk (Kd.V_below (by exact HO_8.out) hb); have n1_ := Aside0.mk (below_step HB.out hb); clear HO_8; clear HB; have HO_8 := n0_; have HB := n1_; clear n0_ n1_; (try clear hb); (skip))))
    go_ret
    exact ⟨by (rfl), HB.out⟩

  rw [if_pos c27] at H
  have c27b0 : decide (x13_3 < 3) = true := decide_eq_true c27
  clear c27
  replace H := Option.bind_eq_some_iff.mp H
  obtain ⟨t488, A280, H⟩ := H
  replace H : ((notaryref47_Verify.f k3 l0 l1 x13_3 l2).bind fun t489 => (if (t488 != t489) = true then (some false) else ((chain_Verify.f k3 l0 l1 x13_3 t474).bind fun t490 => ((notaryref47_Verify.f k3 l0 l1 x13_3 t474).bind fun t491 => (if (t490 != t491) = true then (some false) else (notarylaw47_ChainReads.l0 k3 l0 l1 l2 t474 (wrap64 (x13_3 + 1)))))))) = some r := H
  have A28 := Aside0.mk A280
  clear A280
  replace H := Option.bind_eq_some_iff.mp H
  obtain ⟨t489, A290, H⟩ := H
  replace H : (if (t488 != t489) = true then (some false) else ((chain_Verify.f k3 l0 l1 x13_3 t474).bind fun t490 => ((notaryref47_Verify.f k3 l0 l1 x13_3 t474).bind fun t491 => (if (t490 != t491) = true then (some false) else (notarylaw47_ChainReads.l0 k3 l0 l1 l2 t474 (wrap64 (x13_3 + 1))))))) = some r := H
  have A29 := Aside0.mk A290
  clear A290
  by_cases c30 : (t488 != t489) = true
  · rw [if_pos c30] at H
    have c30b0 : (t488 != t489) = true := c30
    (try (have c30b1 : decide (t488 = t489) = false := by simpa using c30))
    (try (have c30b2 : (t488 == t489) = false := by simpa using c30))
    (try (have c30b3 : ¬ (t488 = t489) := by simpa using c30))
    clear c30
    obtain rfl := Option.some.inj H
    go_wp2_with (first | ((with_reducible refine gate_callee (f := 12) rfl ?_); refine goesL_ (some 60) rfl rfl Try.func12 (by kernel_rfl) rfl #[.slice A0 l0.length c0, .slice A1 l1.length c1, .int .i64 x13_3, .slice A2 l2.length c2] rfl (by (try simp only [List.map_toArray, List.map_cons, List.map_nil]); (rfl)) ?_; (with_reducible refine (chain_Verify.calls k3 _ _ l0 _ _ l1 x13_3 _ _ l2 t488 _ ?side1 ?side2 ?side3 ?side4 ?side5 ?side6 A28.out).mono ?_); (case side1 => exact Kd.C_below HR0.out HB.out); (case side2 => exact HC0.out); (case side3 => exact Kd.C_below HR1.out HB.out); (case side4 => exact HC1.out); (case side5 => exact Kd.C_below HR2.out HB.out); (case side6 => exact HC2.out); rintro e w31 ⟨rfl, hb⟩; refine ⟨_, rfl, ?_⟩; have n0_ := Aside0.mk (Kd.V_below (by exact HO_8.out) hb); have n1_ := Aside0.mk (below_step HB.out hb); clear HO_8; clear HB; have HO_8 := n0_; have HB := n1_; clear n0_ n1_; (try clear hb); (skip)) | ((with_reducible refine gate_callee (f := 13) rfl ?_); refine goesL_ (some 65) rfl rfl Try.func13 (by kernel_rfl) rfl #[.slice A0 l0.length c0, .slice A1 l1.length c1, .int .i64 x13_3, .slice A2 l2.length c2] rfl (by (try simp only [List.map_toArray, List.map_cons, List.map_nil]); (rfl)) ?_; (with_reducible refine (notaryref47_Verify.calls k3 _ _ l0 _ _ l1 x13_3 _ _ l2 t489 _ ?side1 ?side2 ?side3 ?side4 ?side5 ?side6 A29.out).mono ?_); (case side1 => exact Kd.C_below HR0.out HB.out); (case side2 => exact HC0.out); (case side3 => exact Kd.C_below HR1.out HB.out); (case side4 => exact HC1.out); (case side5 => exact Kd.C_below HR2.out HB.out); (case side6 => exact HC2.out); rintro e w32 ⟨rfl, hb⟩; refine ⟨_, rfl, ?_⟩; have n0_ := Aside0.mk (Kd.V_below (by exact HO_8.out) hb); have n1_ := Aside0.mk (below_step HB.out hb); clear HO_8; clear HB; have HO_8 := n0_; have HB := n1_; clear n0_ n1_; (try clear hb); (skip)))
    go_ret
    exact ⟨by (rfl), HB.out⟩
  rw [if_neg c30] at H
  have c30b0 : (t488 != t489) = false := by simpa using c30
  (try (have c30b1 : decide (t488 = t489) = true := by simpa using c30))
  (try (have c30b2 : (t488 == t489) = true := by simpa using c30))
  clear c30
  replace H := Option.bind_eq_some_iff.mp H
  obtain ⟨t490, A330, H⟩ := H
  replace H : ((notaryref47_Verify.f k3 l0 l1 x13_3 t474).bind fun t491 => (if (t490 != t491) = true then (some false) else (notarylaw47_ChainReads.l0 k3 l0 l1 l2 t474 (wrap64 (x13_3 + 1))))) = some r := H
  have A33 := Aside0.mk A330
  clear A330
  replace H := Option.bind_eq_some_iff.mp H
  obtain ⟨t491, A340, H⟩ := H
  replace H : (if (t490 != t491) = true then (some false) else (notarylaw47_ChainReads.l0 k3 l0 l1 l2 t474 (wrap64 (x13_3 + 1)))) = some r := H
  have A34 := Aside0.mk A340
  clear A340
  by_cases c35 : (t490 != t491) = true
  · rw [if_pos c35] at H
    have c35b0 : (t490 != t491) = true := c35
    (try (have c35b1 : decide (t490 = t491) = false := by simpa using c35))
    (try (have c35b2 : (t490 == t491) = false := by simpa using c35))
    (try (have c35b3 : ¬ (t490 = t491) := by simpa using c35))
    clear c35
    obtain rfl := Option.some.inj H
    go_wp2_with (first | ((with_reducible refine gate_callee (f := 12) rfl ?_); refine goesL_ (some 60) rfl rfl Try.func12 (by kernel_rfl) rfl #[.slice A0 l0.length c0, .slice A1 l1.length c1, .int .i64 x13_3, .slice A2 l2.length c2] rfl (by (try simp only [List.map_toArray, List.map_cons, List.map_nil]); (rfl)) ?_; (with_reducible refine (chain_Verify.calls k3 _ _ l0 _ _ l1 x13_3 _ _ l2 t488 _ ?side1 ?side2 ?side3 ?side4 ?side5 ?side6 A28.out).mono ?_); (case side1 => exact Kd.C_below HR0.out HB.out); (case side2 => exact HC0.out); (case side3 => exact Kd.C_below HR1.out HB.out); (case side4 => exact HC1.out); (case side5 => exact Kd.C_below HR2.out HB.out); (case side6 => exact HC2.out); rintro e w36 ⟨rfl, hb⟩; refine ⟨_, rfl, ?_⟩; have n0_ := Aside0.mk (Kd.V_below (by exact HO_8.out) hb); have n1_ := Aside0.mk (below_step HB.out hb); clear HO_8; clear HB; have HO_8 := n0_; have HB := n1_; clear n0_ n1_; (try clear hb); (skip)) | ((with_reducible refine gate_callee (f := 13) rfl ?_); refine goesL_ (some 65) rfl rfl Try.func13 (by kernel_rfl) rfl #[.slice A0 l0.length c0, .slice A1 l1.length c1, .int .i64 x13_3, .slice A2 l2.length c2] rfl (by (try simp only [List.map_toArray, List.map_cons, List.map_nil]); (rfl)) ?_; (with_reducible refine (notaryref47_Verify.calls k3 _ _ l0 _ _ l1 x13_3 _ _ l2 t489 _ ?side1 ?side2 ?side3 ?side4 ?side5 ?side6 A29.out).mono ?_); (case side1 => exact Kd.C_below HR0.out HB.out); (case side2 => exact HC0.out); (case side3 => exact Kd.C_below HR1.out HB.out); (case side4 => exact HC1.out); (case side5 => exact Kd.C_below HR2.out HB.out); (case side6 => exact HC2.out); rintro e w37 ⟨rfl, hb⟩; refine ⟨_, rfl, ?_⟩; have n0_ := Aside0.mk (Kd.V_below (by exact HO_8.out) hb); have n1_ := Aside0.mk (below_step HB.out hb); clear HO_8; clear HB; have HO_8 := n0_; have HB := n1_; clear n0_ n1_; (try clear hb); obtain ⟨Ao38, co38, eo38⟩ := Kd.V_slice HO_8.out; subst eo38) | (go_at_call 12; (with_reducible refine (chain_Verify.calls k3 _ _ l0 _ _ l1 x13_3 _ _ t474 t490 _ ?side1 ?side2 ?side3 ?side4 ?side5 ?side6 A33.out).mono ?_); (case side1 => exact Kd.C_below HR0.out HB.out); (case side2 => exact HC0.out); (case side3 => exact Kd.C_below HR1.out HB.out); (case side4 => exact HC1.out); (case side5 => repeat ((exact (Kd.V_reads' HO_8.out).2.2))); (case side6 => exact (Kd.V_reads' HO_8.out).2.1); rintro e w39 ⟨rfl, hb⟩; have n0_ := Aside0.mk (Kd.V_below (by exact HO_8.out) hb); have n1_ := Aside0.mk (below_step HB.out hb); clear HO_8; clear HB; have HO_8 := n0_; have HB := n1_; clear n0_ n1_; (try clear hb); (skip)) | (go_at_call 13; (with_reducible refine (notaryref47_Verify.calls k3 _ _ l0 _ _ l1 x13_3 _ _ t474 t491 _ ?side1 ?side2 ?side3 ?side4 ?side5 ?side6 A34.out).mono ?_); (case side1 => exact Kd.C_below HR0.out HB.out); (case side2 => exact HC0.out); (case side3 => exact Kd.C_below HR1.out HB.out); (case side4 => exact HC1.out); (case side5 => repeat ((exact (Kd.V_reads' HO_8.out).2.2))); (case side6 => exact (Kd.V_reads' HO_8.out).2.1); rintro e w40 ⟨rfl, hb⟩; have n0_ := Aside0.mk (Kd.V_below (by exact HO_8.out) hb); have n1_ := Aside0.mk (below_step HB.out hb); clear HO_8; clear HB; have HO_8 := n0_; have HB := n1_; clear n0_ n1_; (try clear hb); (skip)))
    go_ret
    exact ⟨by (rfl), HB.out⟩
  rw [if_neg c35] at H
  have c35b0 : (t490 != t491) = false := by simpa using c35
  (try (have c35b1 : decide (t490 = t491) = true := by simpa using c35))
  (try (have c35b2 : (t490 == t491) = true := by simpa using c35))
  clear c35
  have H' := Aside0.mk H
  clear H
  go_wp2_with (first | ((with_reducible refine gate_callee (f := 12) rfl ?_); refine goesL_ (some 60) rfl rfl Try.func12 (by kernel_rfl) rfl #[.slice A0 l0.length c0, .slice A1 l1.length c1, .int .i64 x13_3, .slice A2 l2.length c2] rfl (by (try simp only [List.map_toArray, List.map_cons, List.map_nil]); (rfl)) ?_; (with_reducible refine (chain_Verify.calls k3 _ _ l0 _ _ l1 x13_3 _ _ l2 t488 _ ?side1 ?side2 ?side3 ?side4 ?side5 ?side6 A28.out).mono ?_); (case side1 => exact Kd.C_below HR0.out HB.out); (case side2 => exact HC0.out); (case side3 => exact Kd.C_below HR1.out HB.out); (case side4 => exact HC1.out); (case side5 => exact Kd.C_below HR2.out HB.out); (case side6 => exact HC2.out); rintro e w41 ⟨rfl, hb⟩; refine ⟨_, rfl, ?_⟩; have n0_ := Aside0.mk (Kd.V_below (by exact HO_8.out) hb); have n1_ := Aside0.mk (below_step HB.out hb); clear HO_8; clear HB; have HO_8 := n0_; have HB := n1_; clear n0_ n1_; (try clear hb); (skip)) | ((with_reducible refine gate_callee (f := 13) rfl ?_); refine goesL_ (some 65) rfl rfl Try.func13 (by kernel_rfl) rfl #[.slice A0 l0.length c0, .slice A1 l1.length c1, .int .i64 x13_3, .slice A2 l2.length c2] rfl (by (try simp only [List.map_toArray, List.map_cons, List.map_nil]); (rfl)) ?_; (with_reducible refine (notaryref47_Verify.calls k3 _ _ l0 _ _ l1 x13_3 _ _ l2 t489 _ ?side1 ?side2 ?side3 ?side4 ?side5 ?side6 A29.out).mono ?_); (case side1 => exact Kd.C_below HR0.out HB.out); (case side2 => exact HC0.out); (case side3 => exact Kd.C_below HR1.out HB.out); (case side4 => exact HC1.out); (case side5 => exact Kd.C_below HR2.out HB.out); (case side6 => exact HC2.out); rintro e w42 ⟨rfl, hb⟩; refine ⟨_, rfl, ?_⟩; have n0_ := Aside0.mk (Kd.V_below (by exact HO_8.out) hb); have n1_ := Aside0.mk (below_step HB.out hb); clear HO_8; clear HB; have HO_8 := n0_; have HB := n1_; clear n0_ n1_; (try clear hb); obtain ⟨Ao43, co43, eo43⟩ := Kd.V_slice HO_8.out; subst eo43) | (go_at_call 12; (with_reducible refine (chain_Verify.calls k3 _ _ l0 _ _ l1 x13_3 _ _ t474 t490 _ ?side1 ?side2 ?side3 ?side4 ?side5 ?side6 A33.out).mono ?_); (case side1 => exact Kd.C_below HR0.out HB.out); (case side2 => exact HC0.out); (case side3 => exact Kd.C_below HR1.out HB.out); (case side4 => exact HC1.out); (case side5 => repeat ((exact (Kd.V_reads' HO_8.out).2.2))); (case side6 => exact (Kd.V_reads' HO_8.out).2.1); rintro e w44 ⟨rfl, hb⟩; have n0_ := Aside0.mk (Kd.V_below (by exact HO_8.out) hb); have n1_ := Aside0.mk (below_step HB.out hb); clear HO_8; clear HB; have HO_8 := n0_; have HB := n1_; clear n0_ n1_; (try clear hb); (skip)) | (go_at_call 13; (with_reducible refine (notaryref47_Verify.calls k3 _ _ l0 _ _ l1 x13_3 _ _ t474 t491 _ ?side1 ?side2 ?side3 ?side4 ?side5 ?side6 A34.out).mono ?_); (case side1 => exact Kd.C_below HR0.out HB.out); (case side2 => exact HC0.out); (case side3 => exact Kd.C_below HR1.out HB.out); (case side4 => exact HC1.out); (case side5 => repeat ((exact (Kd.V_reads' HO_8.out).2.2))); (case side6 => exact (Kd.V_reads' HO_8.out).2.1); rintro e w45 ⟨rfl, hb⟩; have n0_ := Aside0.mk (Kd.V_below (by exact HO_8.out) hb); have n1_ := Aside0.mk (below_step HB.out hb); clear HO_8; clear HB; have HO_8 := n0_; have HB := n1_; clear n0_ n1_; (try clear hb); (skip)))
  go_roundg k3
  case measure => have := HJ3.out; have := HJ10.out; have := HK3.out; omega
  case rel => exact ⟨(wrap64 (x13_3 + 1)), (by (rfl)), H', ⟨by have := HJ3.out; have := HJ10.out; have := HK3.out; omega⟩, ⟨by exact HO_8.out⟩, ⟨HB.out⟩⟩
/-- THE ONE PURE STATEMENT of notarylaw47_ChainReads: yours. -/
def notarylaw47_ChainReads.Pure : Prop := ∀ (l0 : List Int) (l1 : List Int) (l2 : List Int), l0.length ≤ maxLen → l0.length * 1 ≤ 140737488351232 → (∀ x ∈ l0, (Lit.int .u8 x).wf = true) → l1.length ≤ maxLen → l1.length * 1 ≤ 140737488351232 → (∀ x ∈ l1, (Lit.int .u8 x).wf = true) → l2.length ≤ maxLen → l2.length * 1 ≤ 140737488351232 → (∀ x ∈ l2, (Lit.int .u8 x).wf = true) → ∃ k, notarylaw47_ChainReads.f k l0 l1 l2 = some true
theorem notarylaw47_ChainReads.walk (P : notarylaw47_ChainReads.Pure) (a0 : Option Addr) (len0 cap0 : Nat) (z0 : List Int) (a1 : Option Addr) (len1 cap1 : Nat) (z1 : List Int) (a2 : Option Addr) (len2 cap2 : Nat) (z2 : List Int) (w : World) (w0 : (a0 = none ∧ len0 = 0 ∧ cap0 = 0 ∧ z0 = []) ∨ ∃ x, a0 = some x ∧ len0 ≤ cap0 ∧ cap0 ≤ maxLen ∧ z0.length = cap0 ∧ (∀ i, i < z0.length → w.cell? (x.add i) = some (.int .u8 (z0.getD i 0))) ∧ ∀ n ∈ z0, (Lit.int .u8 n).wf = true) (y0 : len0 * 1 ≤ 140737488351232) (w1 : (a1 = none ∧ len1 = 0 ∧ cap1 = 0 ∧ z1 = []) ∨ ∃ x, a1 = some x ∧ len1 ≤ cap1 ∧ cap1 ≤ maxLen ∧ z1.length = cap1 ∧ (∀ i, i < z1.length → w.cell? (x.add i) = some (.int .u8 (z1.getD i 0))) ∧ ∀ n ∈ z1, (Lit.int .u8 n).wf = true) (y1 : len1 * 1 ≤ 140737488351232) (w2 : (a2 = none ∧ len2 = 0 ∧ cap2 = 0 ∧ z2 = []) ∨ ∃ x, a2 = some x ∧ len2 ≤ cap2 ∧ cap2 ≤ maxLen ∧ z2.length = cap2 ∧ (∀ i, i < z2.length → w.cell? (x.add i) = some (.int .u8 (z2.getD i 0))) ∧ ∀ n ∈ z2, (Lit.int .u8 n).wf = true) (y2 : len2 * 1 ≤ 140737488351232) :
    Calls Try.prog 3 #[.slice a0 len0 cap0, .slice a1 len1 cap1, .slice a2 len2 cap2] w fun e w' => e = .returned (.bool true) ∧ Below w.heap.size w w' := by
  obtain ⟨l0, rfl, hr0, hm0, hw0, hc0⟩ := ReadsInt.ofRowC w0
  obtain ⟨l1, rfl, hr1, hm1, hw1, hc1⟩ := ReadsInt.ofRowC w1
  obtain ⟨l2, rfl, hr2, hm2, hw2, hc2⟩ := ReadsInt.ofRowC w2
  obtain ⟨k, h⟩ := P l0 l1 l2 hm0 y0 hw0 hm1 y1 hw1 hm2 y2 hw2
  refine (notarylaw47_ChainReads.calls k _ _ l0 _ _ l1 _ _ l2 true w (Kd.C_of_reads (d := (0 : Int)) (h1 := fun _ => rfl) hr0) hc0 (Kd.C_of_reads (d := (0 : Int)) (h1 := fun _ => rfl) hr1) hc1 (Kd.C_of_reads (d := (0 : Int)) (h1 := fun _ => rfl) hr2) hc2 h).mono ?_
  rintro e w' ⟨rfl, hd⟩
  exact ⟨rfl, hd⟩

end Go.Proofs.Ytnkkgeglnmggpaa.PCr
