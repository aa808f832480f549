-- SLIM: a printed text of which the unused ways are cut off
-- PRINTED by print.py (a twelfth state) out of the translation. Not trusted: Lean checks it.
import Derived.Test.YtnkkgeglnmggpaaPCbx0
import Derived.Test.YtnkkgeglnmggpaaPCbx4
import Derived.Test.YtnkkgeglnmggpaaPCbx5
import Derived.Test.YtnkkgeglnmggpaaPCbx6
import Derived.Test.YtnkkgeglnmggpaaPCbx7
import Derived.Test.YtnkkgeglnmggpaaPCbx13
namespace Go.Proofs.Ytnkkgeglnmggpaa.PCb
open Go.RowKit Go.Proofs.YtnkkgeglnmggpaaW.PrintWords Go.Proofs.YtnkkgeglnmggpaaW.PrintLast Go.Proofs.YtnkkgeglnmggpaaW.PrintMore
attribute [local go_sem] max2_int min2_int max_two min_two max_three min_three max_four min_four   -- for this text's walks alone
set_option linter.unusedVariables false
set_option linter.unusedSimpArgs false

/-! ### notarylaw47_ChainBuilds: function 6 -/
mutual
def notarylaw47_ChainBuilds.j0 : Nat → List Int → List (S42) → Int → Bool → Option (Bool)
  | 0, _, _, _, _ => none
  | k + 1, x0, x1, x2, x26 => if x26 = true then ((notarylaw47_awake.f k).bind fun t458 => (some t458)) else ((chain_Build.f k x0 x1).bind fun bt459 => ((notaryref47_Build.f k x0 x1).bind fun bt466 => (if bt459.2.2 = bt466.2.2 then ((notaryref01_Same.f k bt459.1 bt466.1).bind fun t473 => (if t473 = true then ((notaryref01_Same.f k bt459.2.1 bt466.2.1).bind fun t474 => (if t474 = true then ((chain_First.f).bind fun t475 => ((notaryref47_First.f).bind fun t478 => ((notaryref01_Same.f k t475 t478).bind fun t481 => (notarylaw47_ChainBuilds.j1 k x0 x1 x2 bt459.1 bt459.2.1 bt459.2.2 (!t481))))) else (notarylaw47_ChainBuilds.j1 k x0 x1 x2 bt459.1 bt459.2.1 bt459.2.2 true))) else (notarylaw47_ChainBuilds.j1 k x0 x1 x2 bt459.1 bt459.2.1 bt459.2.2 true))) else (notarylaw47_ChainBuilds.j1 k x0 x1 x2 bt459.1 bt459.2.1 bt459.2.2 true))))
def notarylaw47_ChainBuilds.j1 : Nat → List Int → List (S42) → Int → List Int → List Int → Int → Bool → Option (Bool)
  | 0, _, _, _, _, _, _, _ => none
  | k + 1, x0, x1, x2, x7, x8, x9, x62 => if x62 = true then (some false) else (if (x1.length : Int) > 0 then ((notaryref47_First.f).bind fun t482 => (if 0 < (x1.length : Int) then ((chain_Message.f k t482 x2 ((rd_T42 x1 0).f0) ((rd_T42 x1 0).f1)).bind fun bt486 => ((notaryref47_First.f).bind fun t490 => ((notaryref47_Message.f k t490 x2 ((rd_T42 x1 0).f0) ((rd_T42 x1 0).f1)).bind fun bt494 => (if bt486.2 = bt494.2 then ((notaryref01_Same.f k bt486.1 bt494.1).bind fun t498 => (if t498 = true then (notarylaw47_ChainBuilds.j2 k x0 x1 x7 x8 x9) else (some false))) else (some false))))) else (none))) else (notarylaw47_ChainBuilds.j2 k x0 x1 x7 x8 x9))
def notarylaw47_ChainBuilds.j2 : Nat → List Int → List (S42) → List Int → List Int → Int → Option (Bool)
  | 0, _, _, _, _, _ => none
  | k + 1, x0, x1, x7, x8, x9 => if x9 = 0 then ((chain_Entries.f k x0 x7).bind fun bt500 => (if bt500.2.2 = 0 then ((notaryref46_Alike.f k bt500.1 x1).bind fun t507 => (if t507 = true then ((notaryref01_Same.f k bt500.2.1 x8).bind fun t508 => (if t508 = true then ((chain_Verify.f k x0 x7 (x1.length : Int) x8).bind fun t509 => (if t509 = true then ((notarylaw47_awake.f k).bind fun t510 => (some t510)) else (some false))) else (some false))) else (some false))) else (some false))) else ((notarylaw47_awake.f k).bind fun t499 => (some t499))
end
def notarylaw47_ChainBuilds.f (k : Nat) (l0 : List Int) (l1 : List (S42)) (a2 : Int) : Option (Bool) := (notaryref47_Large.f k l1).bind fun t457 => (if t457 = true then (notarylaw47_ChainBuilds.j0 k l0 l1 a2 true) else (notarylaw47_ChainBuilds.j0 k l0 l1 a2 (decide ((l0.length : Int) > 200))))
theorem notarylaw47_ChainBuilds.mono_l : ∀ k, (∀ y0 y1 y2 y3, LeO (notarylaw47_ChainBuilds.j0 k y0 y1 y2 y3) (notarylaw47_ChainBuilds.j0 (k + 1) y0 y1 y2 y3)) ∧ (∀ y0 y1 y2 y3 y4 y5 y6, LeO (notarylaw47_ChainBuilds.j1 k y0 y1 y2 y3 y4 y5 y6) (notarylaw47_ChainBuilds.j1 (k + 1) y0 y1 y2 y3 y4 y5 y6)) ∧ (∀ y0 y1 y2 y3 y4, LeO (notarylaw47_ChainBuilds.j2 k y0 y1 y2 y3 y4) (notarylaw47_ChainBuilds.j2 (k + 1) y0 y1 y2 y3 y4))
  | 0 => ⟨fun _ _ _ _ r h => by simp [notarylaw47_ChainBuilds.j0] at h, fun _ _ _ _ _ _ _ r h => by simp [notarylaw47_ChainBuilds.j1] at h, fun _ _ _ _ _ r h => by simp [notarylaw47_ChainBuilds.j2] at h⟩
  | k + 1 => by
    obtain ⟨ih0, ih1, ih2⟩ := notarylaw47_ChainBuilds.mono_l k
    refine ⟨?_, ?_, ?_⟩
    · intro y0 y1 y2 y3
      unfold notarylaw47_ChainBuilds.j0
      repeat' first | (with_reducible exact ih1 _ _ _ _ _ _ _) | (with_reducible exact chain_Build.mono _ _ _) | (with_reducible exact notarylaw47_awake.mono _) | (with_reducible exact notaryref01_Same.mono _ _ _) | (with_reducible exact notaryref47_Build.mono _ _ _) | (with_reducible exact LeO.refl _) | (with_reducible refine LeO.ite ?_ ?_) | (with_reducible refine LeO.bind ?_ (fun _ => ?_))
    · intro y0 y1 y2 y3 y4 y5 y6
      unfold notarylaw47_ChainBuilds.j1
      repeat' first | (with_reducible exact ih2 _ _ _ _ _) | (with_reducible exact chain_Message.mono _ _ _ _ _) | (with_reducible exact notaryref01_Same.mono _ _ _) | (with_reducible exact notaryref47_Message.mono _ _ _ _ _) | (with_reducible exact LeO.refl _) | (with_reducible refine LeO.ite ?_ ?_) | (with_reducible refine LeO.bind ?_ (fun _ => ?_))
    · intro y0 y1 y2 y3 y4
      unfold notarylaw47_ChainBuilds.j2
      repeat' first | (with_reducible exact chain_Entries.mono _ _ _) | (with_reducible exact chain_Verify.mono _ _ _ _ _) | (with_reducible exact notarylaw47_awake.mono _) | (with_reducible exact notaryref01_Same.mono _ _ _) | (with_reducible exact notaryref46_Alike.mono _ _ _) | (with_reducible exact LeO.refl _) | (with_reducible refine LeO.ite ?_ ?_) | (with_reducible refine LeO.bind ?_ (fun _ => ?_))
theorem notarylaw47_ChainBuilds.mono : ∀ a0 a1 a2 k, LeO (notarylaw47_ChainBuilds.f k a0 a1 a2) (notarylaw47_ChainBuilds.f (k + 1) a0 a1 a2) := by
  intro a0 a1 a2 k
  obtain ⟨ih0, ih1, ih2⟩ := notarylaw47_ChainBuilds.mono_l k
  unfold notarylaw47_ChainBuilds.f
  repeat' first | (with_reducible exact ih0 _ _ _ _) | (with_reducible exact notaryref47_Large.mono _ _) | (with_reducible refine LeO.ite ?_ ?_) | (with_reducible refine LeO.bind ?_ (fun _ => ?_))
def notarylaw47_ChainBuilds.T8 : Bool × List (List Nat × List Nat) := (true, [([], []), ([], []), ([], []), ([2], [2]), ([3], [3]), ([0, 1, 4, 0], [0, 1, 4]), ([5], [5]), ([6], [6]), ([6], [6]), ([7, 5, 0, 1, 2, 3, 4, 5, 6, 7], [7]), ([8, 9, 0, 1, 2, 3, 4, 5, 6, 7, 8, 9], [8])])
def notarylaw47_ChainBuilds.B8 : List Nat := [0, 0, 0, 4, 12, 31, 63, 127, 127, 255, 1023]
theorem notarylaw47_ChainBuilds.tab8 : rtab .any (opsOf Try.f6 8) = notarylaw47_ChainBuilds.T8 := by kernel_rfl
theorem notarylaw47_ChainBuilds.bits8 : waitsOk notarylaw47_ChainBuilds.T8.2 notarylaw47_ChainBuilds.B8 = true := by kernel_rfl
def notarylaw47_ChainBuilds.T9 : Bool × List (List Nat × List Nat) := (true, [([], []), ([], []), ([], []), ([2], [2]), ([3], [3]), ([0, 1, 4, 0], [0, 1, 4]), ([5], [5]), ([6], [6]), ([6], [6]), ([7, 5, 0, 1, 2, 3, 4, 5, 6, 7], [7]), ([8, 9, 0, 1, 2, 3, 4, 5, 6, 7, 8, 9], [8])])
def notarylaw47_ChainBuilds.B9 : List Nat := [0, 0, 0, 4, 12, 31, 63, 127, 127, 255, 1023]
theorem notarylaw47_ChainBuilds.tab9 : rtab .any (opsOf Try.f6 9) = notarylaw47_ChainBuilds.T9 := by kernel_rfl
theorem notarylaw47_ChainBuilds.bits9 : waitsOk notarylaw47_ChainBuilds.T9.2 notarylaw47_ChainBuilds.B9 = true := by kernel_rfl
set_option maxHeartbeats 8000000 in
set_option maxRecDepth 100000 in
theorem notarylaw47_ChainBuilds.calls (k : Nat) (A0 : Option Addr) (c0 : Nat) (l0 : List Int) (A1 : Option Addr) (c1 : Nat) (l1 : List (S42)) (a2 : Int) (r : Bool) (w : World) (hr0 : Kd.C (Kd.int .u8) w A0 l0.length l0) (hc0 : l0.length ≤ c0) (hr1 : Kd.C k42 w A1 l1.length l1) (hc1 : l1.length ≤ c1) (h : notarylaw47_ChainBuilds.f k l0 l1 a2 = some r) :
    Calls Try.prog 6 #[.slice A0 l0.length c0, .slice A1 l1.length c1, .int .u64 a2] w fun e w' => e = .returned (.bool r) ∧ Below w.heap.size w w' := by
  have hu42 := Try.underlying42
  have HR0 := Aside0.mk hr0
  have HC0 := Aside0.mk hc0
  clear hr0 hc0
  have HR1 := Aside0.mk hr1
  have HC1 := Aside0.mk hc1
  clear hr1 hc1
  have HB := Aside0.mk (Below.refl w.heap.size w)
  have H : ((notaryref47_Large.f k l1).bind fun t457 => (if t457 = true then (notarylaw47_ChainBuilds.j0 k l0 l1 a2 true) else (notarylaw47_ChainBuilds.j0 k l0 l1 a2 (decide ((l0.length : Int) > 200))))) = some r := h
  clear h
  have HC4 := Aside0.mk H
  clear H
  go_enter Try.func6, Try.ntmps6
  go_upto_region 1 with (fail)
  go_cut [26] (fun v26 wc => ∃ (kq : Nat) (x26_3 : Bool), v26 = .bool x26_3 ∧ Aside0 (notarylaw47_ChainBuilds.j0 kq l0 l1 a2 x26_3 = some r) ∧ Aside0 (kq ≤ k) ∧ Aside0 (Below w.heap.size w wc))
  case first =>
    have H := HC4.out
    clear HC4
    replace H := Option.bind_eq_some_iff.mp H
    obtain ⟨t457, A50, H⟩ := H
    replace H : (if t457 = true then (notarylaw47_ChainBuilds.j0 k l0 l1 a2 true) else (notarylaw47_ChainBuilds.j0 k l0 l1 a2 (decide ((l0.length : Int) > 200)))) = some r := H
    have A5 := Aside0.mk A50
    clear A50
    by_cases c6 : t457 = true
    · subst c6
      have H1 : (notarylaw47_ChainBuilds.j0 k l0 l1 a2 true) = some r := by rw [if_pos rfl] at H; exact H
      clear H
      have H := H1
      clear H1
      have H' := Aside0.mk H
      clear H
      go_wp2_with ((((with_reducible refine gate_callee (f := 17) rfl ?_); refine goesL_ (some 21) rfl rfl Try.func17 (by kernel_rfl) rfl #[.slice A1 l1.length c1] rfl (by (try simp only [List.map_toArray, List.map_cons, List.map_nil]); (rfl)) ?_; (with_reducible refine (notaryref47_Large.calls k _ _ l1 true _ ?side1 ?side2 A5.out).mono ?_); (case side1 => exact Kd.C_below HR1.out HB.out); (case side2 => exact HC1.out); rintro e w' ⟨rfl, ⟨nd, rfl⟩⟩; refine ⟨_, rfl, ?_⟩)))
      go_meet
      case rel => exact ⟨_, (true), (by (rfl)), H', ⟨by (omega)⟩, ⟨by repeat (with_reducible first | exact HB.out | apply pw_below_drewN)⟩⟩
    replace c6 := Bool.eq_false_iff.mpr c6
    subst c6
    have H1 : (notarylaw47_ChainBuilds.j0 k l0 l1 a2 (decide ((l0.length : Int) > 200))) = some r := by rw [if_neg (show ¬ (false = true) by decide)] at H; exact H
    clear H
    have H := H1
    clear H1
    have H' := Aside0.mk H
    clear H
    go_wp2_with ((((with_reducible refine gate_callee (f := 17) rfl ?_); refine goesL_ (some 21) rfl rfl Try.func17 (by kernel_rfl) rfl #[.slice A1 l1.length c1] rfl (by (try simp only [List.map_toArray, List.map_cons, List.map_nil]); (rfl)) ?_; (with_reducible refine (notaryref47_Large.calls k _ _ l1 false _ ?side1 ?side2 A5.out).mono ?_); (case side1 => exact Kd.C_below HR1.out HB.out); (case side2 => exact HC1.out); rintro e w' ⟨rfl, ⟨nd, rfl⟩⟩; refine ⟨_, rfl, ?_⟩)))
    go_meet
    case rel => exact ⟨_, (decide ((l0.length : Int) > 200)), (by (rfl)), H', ⟨by (omega)⟩, ⟨by repeat (with_reducible first | exact HB.out | apply pw_below_drewN)⟩⟩
  clear HC4
  obtain ⟨kq, x26_3, rfl, HA, HJ3, HB⟩ := hcut
  rcases kq with _ | kj3
  · exact absurd HA.out (by simp [notarylaw47_ChainBuilds.j0])
  have H := HA.out
  clear HA
  simp only [notarylaw47_ChainBuilds.j0] at H
  by_cases c7 : x26_3 = true
  · subst c7
    have H1 : ((notarylaw47_awake.f kj3).bind fun t458 => (some t458)) = some r := by rw [if_pos rfl] at H; exact H
    clear H
    have H := H1
    clear H1
    replace H := Option.bind_eq_some_iff.mp H
    obtain ⟨t458, A80, H⟩ := H
    replace H : (some t458) = some r := H
    have A8 := Aside0.mk A80
    clear A80
    obtain rfl := Option.some.inj H
    go_wp2_with ((((with_reducible refine gate_callee (f := 7) rfl ?_); refine goesL_ (some 27) rfl rfl Try.func7 (by kernel_rfl) rfl #[] rfl (by (try simp only [List.map_toArray, List.map_cons, List.map_nil]); (done)) ?_; (with_reducible refine (notarylaw47_awake.calls kj3  t458 _ A8.out).mono ?_); rintro e w9 ⟨rfl, hb⟩; refine ⟨_, rfl, ?_⟩; have n0_ := Aside0.mk (below_step HB.out hb); clear HB; have HB := n0_; clear n0_; (try clear hb); (skip))))
    go_ret
    exact ⟨by (rfl), HB.out⟩
  replace c7 := Bool.eq_false_iff.mpr c7
  subst c7
  have H1 : ((chain_Build.f kj3 l0 l1).bind fun bt459 => ((notaryref47_Build.f kj3 l0 l1).bind fun bt466 => (if bt459.2.2 = bt466.2.2 then ((notaryref01_Same.f kj3 bt459.1 bt466.1).bind fun t473 => (if t473 = true then ((notaryref01_Same.f kj3 bt459.2.1 bt466.2.1).bind fun t474 => (if t474 = true then ((chain_First.f).bind fun t475 => ((notaryref47_First.f).bind fun t478 => ((notaryref01_Same.f kj3 t475 t478).bind fun t481 => (notarylaw47_ChainBuilds.j1 kj3 l0 l1 a2 bt459.1 bt459.2.1 bt459.2.2 (!t481))))) else (notarylaw47_ChainBuilds.j1 kj3 l0 l1 a2 bt459.1 bt459.2.1 bt459.2.2 true))) else (notarylaw47_ChainBuilds.j1 kj3 l0 l1 a2 bt459.1 bt459.2.1 bt459.2.2 true))) else (notarylaw47_ChainBuilds.j1 kj3 l0 l1 a2 bt459.1 bt459.2.1 bt459.2.2 true)))) = some r := by rw [if_neg (show ¬ (false = true) by decide)] at H; exact H
  clear H
  have H := H1
  clear H1
  replace H := Option.bind_eq_some_iff.mp H
  obtain ⟨⟨t459, t460, t461⟩, A100, H⟩ := H
  replace H : ((notaryref47_Build.f kj3 l0 l1).bind fun bt466 => (if t461 = bt466.2.2 then ((notaryref01_Same.f kj3 t459 bt466.1).bind fun t473 => (if t473 = true then ((notaryref01_Same.f kj3 t460 bt466.2.1).bind fun t474 => (if t474 = true then ((chain_First.f).bind fun t475 => ((notaryref47_First.f).bind fun t478 => ((notaryref01_Same.f kj3 t475 t478).bind fun t481 => (notarylaw47_ChainBuilds.j1 kj3 l0 l1 a2 t459 t460 t461 (!t481))))) else (notarylaw47_ChainBuilds.j1 kj3 l0 l1 a2 t459 t460 t461 true))) else (notarylaw47_ChainBuilds.j1 kj3 l0 l1 a2 t459 t460 t461 true))) else (notarylaw47_ChainBuilds.j1 kj3 l0 l1 a2 t459 t460 t461 true))) = some r := H
  have A10 := Aside0.mk A100
  clear A100
  replace H := Option.bind_eq_some_iff.mp H
  obtain ⟨⟨t466, t467, t468⟩, A110, H⟩ := H
  replace H : (if t461 = t468 then ((notaryref01_Same.f kj3 t459 t466).bind fun t473 => (if t473 = true then ((notaryref01_Same.f kj3 t460 t467).bind fun t474 => (if t474 = true then ((chain_First.f).bind fun t475 => ((notaryref47_First.f).bind fun t478 => ((notaryref01_Same.f kj3 t475 t478).bind fun t481 => (notarylaw47_ChainBuilds.j1 kj3 l0 l1 a2 t459 t460 t461 (!t481))))) else (notarylaw47_ChainBuilds.j1 kj3 l0 l1 a2 t459 t460 t461 true))) else (notarylaw47_ChainBuilds.j1 kj3 l0 l1 a2 t459 t460 t461 true))) else (notarylaw47_ChainBuilds.j1 kj3 l0 l1 a2 t459 t460 t461 true)) = some r := H
  have A11 := Aside0.mk A110
  clear A110
  have HC12 := Aside0.mk H
  clear H
  go_upto_region 5 with (first | ((with_reducible refine gate_callee (f := 21) rfl ?_); refine goesL_ (some 31) rfl rfl Try.func21 (by kernel_rfl) rfl #[.slice A0 l0.length c0, .slice A1 l1.length c1] rfl (by (try simp only [List.map_toArray, List.map_cons, List.map_nil]); (rfl)) ?_; (with_reducible refine (chain_Build.calls kj3 _ _ l0 _ _ l1 t459 t460 t461 _ ?side1 ?side2 ?side3 ?side4 A10.out).mono ?_); (case side1 => exact Kd.C_below HR0.out HB.out); (case side2 => exact HC0.out); (case side3 => exact Kd.C_below HR1.out HB.out); (case side4 => exact HC1.out); rintro e w13 ⟨v462, v464, rfl, ho0, ho1, hb⟩; refine ⟨_, rfl, ?_⟩; have n0_ := Aside0.mk (Kd.R_lower ho0 (below_size HB.out)); have n1_ := Aside0.mk (Kd.R_lower ho1 (below_size HB.out)); have n2_ := Aside0.mk (below_step HB.out hb); clear HB; have HO463 := n0_; have HO465 := n1_; have HB := n2_; clear n0_ n1_ n2_; (try clear hb); (try clear ho0); (try clear ho1)) | ((with_reducible refine gate_callee (f := 22) rfl ?_); refine goesL_ (some 38) rfl rfl Try.func22 (by kernel_rfl) rfl #[.slice A0 l0.length c0, .slice A1 l1.length c1] rfl (by (try simp only [List.map_toArray, List.map_cons, List.map_nil]); (rfl)) ?_; (with_reducible refine (notaryref47_Build.calls kj3 _ _ l0 _ _ l1 t466 t467 t468 _ ?side1 ?side2 ?side3 ?side4 A11.out).mono ?_); (case side1 => exact Kd.C_below HR0.out HB.out); (case side2 => exact HC0.out); (case side3 => exact Kd.C_below HR1.out HB.out); (case side4 => exact HC1.out); rintro e w14 ⟨v469, v471, rfl, ho0, ho1, hb⟩; refine ⟨_, rfl, ?_⟩; have n0_ := Aside0.mk (Kd.R_mono (Kd.R_told (Kd.R_told (Kd.R_old (by exact HO463.out) hb) (Kd.R_base ho0)) (Kd.R_base ho1)) (fun _ h_ => h_.1)); have n1_ := Aside0.mk (Kd.R_mono (Kd.R_told (Kd.R_told (Kd.R_old (by exact HO465.out) hb) (Kd.R_base ho0)) (Kd.R_base ho1)) (fun _ h_ => h_.1)); have n2_ := Aside0.mk (Kd.R_lower (Kd.R_new' (Kd.R_new' ho0 (Kd.R_lt (by exact HO463.out))) (Kd.R_lt (by exact HO465.out))) (below_size HB.out)); have n3_ := Aside0.mk (Kd.R_lower (Kd.R_new' (Kd.R_new' ho1 (Kd.R_lt (by exact HO463.out))) (Kd.R_lt (by exact HO465.out))) (below_size HB.out)); have n4_ := Aside0.mk (below_step HB.out hb); clear HO463; clear HO465; clear HB; have HO463 := n0_; have HO465 := n1_; have HO470 := n2_; have HO472 := n3_; have HB := n4_; clear n0_ n1_ n2_ n3_ n4_; (try clear hb); (try clear ho0); (try clear ho1)))
  (skip)
  go_cut [62] (fun v62 wc => ∃ (kq : Nat) (x62_11 : Bool), v62 = .bool x62_11 ∧ Aside0 (notarylaw47_ChainBuilds.j1 kq l0 l1 a2 t459 t460 t461 x62_11 = some r) ∧ Aside0 (kq ≤ kj3) ∧ Aside0 (Kd.R (Kd.int .u8) 5 wc w.heap.size (fun k_ => some k_ ≠ (v464 : Value).ownBlock) v462 t459) ∧ Aside0 (Kd.R (Kd.int .u8) 5 wc w.heap.size (fun k_ => some k_ ≠ (v462 : Value).ownBlock) v464 t460) ∧ Aside0 (Below w.heap.size w wc))
  case first =>
    have H := HC12.out
    clear HC12
    by_cases c15 : t461 = t468
    rotate_left
    · rw [if_neg c15] at H
      have c15b0 : (t461 == t468) = false := beq_eq_false_iff_ne.mpr c15
      have c15b1 : (t461 != t468) = true := bne_iff_ne.mpr c15
      (skip)
      have H' := Aside0.mk H
      clear H
      go_wp2
      go_meet
      case rel => exact ⟨_, (true), (by (rfl)), H', ⟨by have := HJ3.out; (omega)⟩, ⟨by exact Kd.R_mono HO463.out (fun _ hk => hk.1.1)⟩, ⟨by exact Kd.R_mono HO465.out (fun _ hk => hk.1.1)⟩, ⟨HB.out⟩⟩
    rw [if_pos c15] at H
    have c15b0 : (t461 == t468) = true := beq_iff_eq.mpr c15
    have c15b1 : (t461 != t468) = false := bne_eq_false_iff_eq.mpr c15
    clear c15
    (skip)
    replace H := Option.bind_eq_some_iff.mp H
    obtain ⟨t473, A160, H⟩ := H
    replace H : (if t473 = true then ((notaryref01_Same.f kj3 t460 t467).bind fun t474 => (if t474 = true then ((chain_First.f).bind fun t475 => ((notaryref47_First.f).bind fun t478 => ((notaryref01_Same.f kj3 t475 t478).bind fun t481 => (notarylaw47_ChainBuilds.j1 kj3 l0 l1 a2 t459 t460 t461 (!t481))))) else (notarylaw47_ChainBuilds.j1 kj3 l0 l1 a2 t459 t460 t461 true))) else (notarylaw47_ChainBuilds.j1 kj3 l0 l1 a2 t459 t460 t461 true)) = some r := H
    have A16 := Aside0.mk A160
    clear A160
    by_cases c17 : t473 = true
    rotate_left
    · replace c17 := Bool.eq_false_iff.mpr c17
      subst c17
      have H1 : (notarylaw47_ChainBuilds.j1 kj3 l0 l1 a2 t459 t460 t461 true) = some r := by rw [if_neg (show ¬ (false = true) by decide)] at H; exact H
      clear H
      have H := H1
      clear H1
      have H' := Aside0.mk H
      clear H
      obtain ⟨Ao35, co35, eo35⟩ := Kd.R_slice HO463.out
      subst eo35
      obtain ⟨Ao36, co36, eo36⟩ := Kd.R_slice HO470.out
      subst eo36
      go_wp2_with (((go_at_call 11; (with_reducible refine (notaryref01_Same.calls kj3 _ _ t459 _ _ t466 false _ ?side1 ?side2 ?side3 ?side4 A16.out).mono ?_); (case side1 => repeat ((exact (Kd.R_reads' HO463.out).2.2))); (case side2 => exact (Kd.R_reads' HO463.out).2.1); (case side3 => repeat ((exact (Kd.R_reads' HO470.out).2.2))); (case side4 => exact (Kd.R_reads' HO470.out).2.1); rintro e w' ⟨rfl, ⟨nd, rfl⟩⟩)))
      go_meet
      case rel => exact ⟨_, (true), (by (rfl)), H', ⟨by have := HJ3.out; (omega)⟩, ⟨by (with_reducible repeat (apply Kd.R_drewN)); exact Kd.R_mono HO463.out (fun _ hk => hk.1.1)⟩, ⟨by (with_reducible repeat (apply Kd.R_drewN)); exact Kd.R_mono HO465.out (fun _ hk => hk.1.1)⟩, ⟨by repeat (with_reducible first | exact HB.out | apply pw_below_drewN)⟩⟩
    subst c17
    have H1 : ((notaryref01_Same.f kj3 t460 t467).bind fun t474 => (if t474 = true then ((chain_First.f).bind fun t475 => ((notaryref47_First.f).bind fun t478 => ((notaryref01_Same.f kj3 t475 t478).bind fun t481 => (notarylaw47_ChainBuilds.j1 kj3 l0 l1 a2 t459 t460 t461 (!t481))))) else (notarylaw47_ChainBuilds.j1 kj3 l0 l1 a2 t459 t460 t461 true))) = some r := by rw [if_pos rfl] at H; exact H
    clear H
    have H := H1
    clear H1
    replace H := Option.bind_eq_some_iff.mp H
    obtain ⟨t474, A180, H⟩ := H
    replace H : (if t474 = true then ((chain_First.f).bind fun t475 => ((notaryref47_First.f).bind fun t478 => ((notaryref01_Same.f kj3 t475 t478).bind fun t481 => (notarylaw47_ChainBuilds.j1 kj3 l0 l1 a2 t459 t460 t461 (!t481))))) else (notarylaw47_ChainBuilds.j1 kj3 l0 l1 a2 t459 t460 t461 true)) = some r := H
    have A18 := Aside0.mk A180
    clear A180
    by_cases c19 : t474 = true
    rotate_left
    · replace c19 := Bool.eq_false_iff.mpr c19
      subst c19
      have H1 : (notarylaw47_ChainBuilds.j1 kj3 l0 l1 a2 t459 t460 t461 true) = some r := by rw [if_neg (show ¬ (false = true) by decide)] at H; exact H
      clear H
      have H := H1
      clear H1
      have H' := Aside0.mk H
      clear H
      obtain ⟨Ao31, co31, eo31⟩ := Kd.R_slice HO463.out
      subst eo31
      obtain ⟨Ao32, co32, eo32⟩ := Kd.R_slice HO470.out
      subst eo32
      go_wp2_with (first | (go_at_call 11; (with_reducible refine (notaryref01_Same.calls kj3 _ _ t459 _ _ t466 true _ ?side1 ?side2 ?side3 ?side4 A16.out).mono ?_); (case side1 => repeat ((exact (Kd.R_reads' HO463.out).2.2))); (case side2 => exact (Kd.R_reads' HO463.out).2.1); (case side3 => repeat ((exact (Kd.R_reads' HO470.out).2.2))); (case side4 => exact (Kd.R_reads' HO470.out).2.1); rintro e w' ⟨rfl, ⟨nd, rfl⟩⟩; obtain ⟨Ao33, co33, eo33⟩ := Kd.R_slice HO465.out; subst eo33; obtain ⟨Ao34, co34, eo34⟩ := Kd.R_slice HO472.out; subst eo34) | (go_at_call 11; (with_reducible refine (notaryref01_Same.calls kj3 _ _ t460 _ _ t467 false _ ?side1 ?side2 ?side3 ?side4 A18.out).mono ?_); (case side1 => repeat ((exact (Kd.R_reads' HO465.out).2.2))); (case side2 => exact (Kd.R_reads' HO465.out).2.1); (case side3 => repeat ((exact (Kd.R_reads' HO472.out).2.2))); (case side4 => exact (Kd.R_reads' HO472.out).2.1); rintro e w' ⟨rfl, ⟨nd, rfl⟩⟩))
      go_meet
      case rel => exact ⟨_, (true), (by (rfl)), H', ⟨by have := HJ3.out; (omega)⟩, ⟨by (with_reducible repeat (apply Kd.R_drewN)); exact Kd.R_mono HO463.out (fun _ hk => hk.1.1)⟩, ⟨by (with_reducible repeat (apply Kd.R_drewN)); exact Kd.R_mono HO465.out (fun _ hk => hk.1.1)⟩, ⟨by repeat (with_reducible first | exact HB.out | apply pw_below_drewN)⟩⟩
    subst c19
    have H1 : ((chain_First.f).bind fun t475 => ((notaryref47_First.f).bind fun t478 => ((notaryref01_Same.f kj3 t475 t478).bind fun t481 => (notarylaw47_ChainBuilds.j1 kj3 l0 l1 a2 t459 t460 t461 (!t481))))) = some r := by rw [if_pos rfl] at H; exact H
    clear H
    have H := H1
    clear H1
    replace H := Option.bind_eq_some_iff.mp H
    obtain ⟨t475, A200, H⟩ := H
    replace H : ((notaryref47_First.f).bind fun t478 => ((notaryref01_Same.f kj3 t475 t478).bind fun t481 => (notarylaw47_ChainBuilds.j1 kj3 l0 l1 a2 t459 t460 t461 (!t481)))) = some r := H
    have A20 := Aside0.mk A200
    clear A200
    replace H := Option.bind_eq_some_iff.mp H
    obtain ⟨t478, A210, H⟩ := H
    replace H : ((notaryref01_Same.f kj3 t475 t478).bind fun t481 => (notarylaw47_ChainBuilds.j1 kj3 l0 l1 a2 t459 t460 t461 (!t481))) = some r := H
    have A21 := Aside0.mk A210
    clear A210
    replace H := Option.bind_eq_some_iff.mp H
    obtain ⟨t481, A220, H⟩ := H
    replace H : (notarylaw47_ChainBuilds.j1 kj3 l0 l1 a2 t459 t460 t461 (!t481)) = some r := H
    have A22 := Aside0.mk A220
    clear A220
    have H' := Aside0.mk H
    clear H
    obtain ⟨Ao23, co23, eo23⟩ := Kd.R_slice HO463.out
    subst eo23
    obtain ⟨Ao24, co24, eo24⟩ := Kd.R_slice HO470.out
    subst eo24
    go_wp2_with (first | (go_at_call 11; (with_reducible refine (notaryref01_Same.calls kj3 _ _ t459 _ _ t466 true _ ?side1 ?side2 ?side3 ?side4 A16.out).mono ?_); (case side1 => repeat ((exact (Kd.R_reads' HO463.out).2.2))); (case side2 => exact (Kd.R_reads' HO463.out).2.1); (case side3 => repeat ((exact (Kd.R_reads' HO470.out).2.2))); (case side4 => exact (Kd.R_reads' HO470.out).2.1); rintro e w' ⟨rfl, ⟨nd, rfl⟩⟩; obtain ⟨Ao25, co25, eo25⟩ := Kd.R_slice HO465.out; subst eo25; obtain ⟨Ao26, co26, eo26⟩ := Kd.R_slice HO472.out; subst eo26) | (go_at_call 11; (with_reducible refine (notaryref01_Same.calls kj3 _ _ t460 _ _ t467 true _ ?side1 ?side2 ?side3 ?side4 A18.out).mono ?_); (case side1 => repeat ((exact (Kd.R_reads' HO465.out).2.2))); (case side2 => exact (Kd.R_reads' HO465.out).2.1); (case side3 => repeat ((exact (Kd.R_reads' HO472.out).2.2))); (case side4 => exact (Kd.R_reads' HO472.out).2.1); rintro e w' ⟨rfl, ⟨nd, rfl⟩⟩) | (go_at_call 23; (with_reducible refine (chain_First.calls  t475 _ A20.out).mono ?_); rintro e w27 ⟨v476, rfl, ho0, hb⟩; have n0_ := Aside0.mk (Kd.R_elder' (by (with_reducible repeat (apply Kd.R_drewN)); exact HO463.out) (Kd.R_base ho0) hb); have n1_ := Aside0.mk (Kd.R_elder' (by (with_reducible repeat (apply Kd.R_drewN)); exact HO465.out) (Kd.R_base ho0) hb); have n2_ := Aside0.mk (Kd.R_elder' (by (with_reducible repeat (apply Kd.R_drewN)); exact HO470.out) (Kd.R_base ho0) hb); have n3_ := Aside0.mk (Kd.R_elder' (by (with_reducible repeat (apply Kd.R_drewN)); exact HO472.out) (Kd.R_base ho0) hb); have n4_ := Aside0.mk (Kd.R_lower (Kd.R_new' (Kd.R_new' (Kd.R_new' (Kd.R_new' ho0 (Kd.R_lt (by (with_reducible repeat (apply Kd.R_drewN)); exact HO463.out))) (Kd.R_lt (by (with_reducible repeat (apply Kd.R_drewN)); exact HO465.out))) (Kd.R_lt (by (with_reducible repeat (apply Kd.R_drewN)); exact HO470.out))) (Kd.R_lt (by (with_reducible repeat (apply Kd.R_drewN)); exact HO472.out))) (below_size (by repeat (with_reducible first | exact HB.out | apply pw_below_drewN)))); have n5_ := Aside0.mk (below_step (by repeat (with_reducible first | exact HB.out | apply pw_below_drewN)) hb); clear HO463; clear HO465; clear HO470; clear HO472; clear HB; have HO463 := n0_; have HO465 := n1_; have HO470 := n2_; have HO472 := n3_; have HO477 := n4_; have HB := n5_; clear n0_ n1_ n2_ n3_ n4_ n5_; (try clear hb); (try clear ho0)) | (go_at_call 19; (with_reducible refine (notaryref47_First.calls  t478 _ A21.out).mono ?_); rintro e w28 ⟨v479, rfl, ho0, hb⟩; have n0_ := Aside0.mk (Kd.R_elder' (by exact HO463.out) (Kd.R_base ho0) hb); have n1_ := Aside0.mk (Kd.R_elder' (by exact HO465.out) (Kd.R_base ho0) hb); have n2_ := Aside0.mk (Kd.R_elder' (by exact HO470.out) (Kd.R_base ho0) hb); have n3_ := Aside0.mk (Kd.R_elder' (by exact HO472.out) (Kd.R_base ho0) hb); have n4_ := Aside0.mk (Kd.R_elder' (by exact HO477.out) (Kd.R_base ho0) hb); have n5_ := Aside0.mk (Kd.R_lower (Kd.R_new' (Kd.R_new' (Kd.R_new' (Kd.R_new' (Kd.R_new' ho0 (Kd.R_lt (by exact HO463.out))) (Kd.R_lt (by exact HO465.out))) (Kd.R_lt (by exact HO470.out))) (Kd.R_lt (by exact HO472.out))) (Kd.R_lt (by exact HO477.out))) (below_size HB.out)); have n6_ := Aside0.mk (below_step HB.out hb); clear HO463; clear HO465; clear HO470; clear HO472; clear HO477; clear HB; have HO463 := n0_; have HO465 := n1_; have HO470 := n2_; have HO472 := n3_; have HO477 := n4_; have HO480 := n5_; have HB := n6_; clear n0_ n1_ n2_ n3_ n4_ n5_ n6_; (try clear hb); (try clear ho0); obtain ⟨Ao29, co29, eo29⟩ := Kd.R_slice HO477.out; subst eo29; obtain ⟨Ao30, co30, eo30⟩ := Kd.R_slice HO480.out; subst eo30) | (go_at_call 11; (with_reducible refine (notaryref01_Same.calls kj3 _ _ t475 _ _ t478 t481 _ ?side1 ?side2 ?side3 ?side4 A22.out).mono ?_); (case side1 => repeat ((exact (Kd.R_reads' HO477.out).2.2))); (case side2 => exact (Kd.R_reads' HO477.out).2.1); (case side3 => repeat ((exact (Kd.R_reads' HO480.out).2.2))); (case side4 => exact (Kd.R_reads' HO480.out).2.1); rintro e w' ⟨rfl, ⟨nd, rfl⟩⟩))
    go_meet
    case rel => exact ⟨_, (!t481), (by (rfl)), H', ⟨by have := HJ3.out; (omega)⟩, ⟨by (with_reducible repeat (apply Kd.R_drewN)); exact Kd.R_mono HO463.out (fun _ hk => hk.1.1.1.1)⟩, ⟨by (with_reducible repeat (apply Kd.R_drewN)); exact Kd.R_mono HO465.out (fun _ hk => hk.1.1.1.1)⟩, ⟨by repeat (with_reducible first | exact HB.out | apply pw_below_drewN)⟩⟩
  clear HC12
  obtain ⟨kq, x62_11, rfl, HA, HJ11, HO_7, HO_8, HB⟩ := hcut
  rcases kq with _ | kj11
  · exact absurd HA.out (by simp [notarylaw47_ChainBuilds.j1])
  have H := HA.out
  clear HA
  simp only [notarylaw47_ChainBuilds.j1] at H
  by_cases c37 : x62_11 = true
  · subst c37
    have H1 : (some false) = some r := by rw [if_pos rfl] at H; exact H
    clear H
    have H := H1
    clear H1
    obtain rfl := Option.some.inj H
    go_wp2
    go_ret
    exact ⟨by (rfl), HB.out⟩
  replace c37 := Bool.eq_false_iff.mpr c37
  subst c37
  have H1 : (if (l1.length : Int) > 0 then ((notaryref47_First.f).bind fun t482 => (if 0 < (l1.length : Int) then ((chain_Message.f kj11 t482 a2 ((rd_T42 l1 0).f0) ((rd_T42 l1 0).f1)).bind fun bt486 => ((notaryref47_First.f).bind fun t490 => ((notaryref47_Message.f kj11 t490 a2 ((rd_T42 l1 0).f0) ((rd_T42 l1 0).f1)).bind fun bt494 => (if bt486.2 = bt494.2 then ((notaryref01_Same.f kj11 bt486.1 bt494.1).bind fun t498 => (if t498 = true then (notarylaw47_ChainBuilds.j2 kj11 l0 l1 t459 t460 t461) else (some false))) else (some false))))) else (none))) else (notarylaw47_ChainBuilds.j2 kj11 l0 l1 t459 t460 t461)) = some r := by rw [if_neg (show ¬ (false = true) by decide)] at H; exact H
  clear H
  have H := H1
  clear H1
  have HC38 := Aside0.mk H
  clear H
  go_upto_if 65 with (fail)
  go_cut [] (fun wc => ∃ (kq : Nat), Aside0 (notarylaw47_ChainBuilds.j2 kq l0 l1 t459 t460 t461 = some r) ∧ Aside0 (kq ≤ kj11) ∧ Aside0 (Kd.R (Kd.int .u8) 5 wc w.heap.size (fun k_ => some k_ ≠ (v464 : Value).ownBlock) v462 t459) ∧ Aside0 (Kd.R (Kd.int .u8) 5 wc w.heap.size (fun k_ => some k_ ≠ (v462 : Value).ownBlock) v464 t460) ∧ Aside0 (Below w.heap.size w wc))
  case first =>
    have H := HC38.out
    clear HC38
    by_cases c39 : (l1.length : Int) > 0
    rotate_left
    · rw [if_neg c39] at H
      have c39b0 : decide (0 < (l1.length : Int)) = false := decide_eq_false c39
      have c39b1 : decide (0 < l1.length) = false := decide_eq_false (by omega)
      clear c39
      (rw [c39b1])
      have H' := Aside0.mk H
      clear H
      go_wp2
      go_meet
      case rel => exact ⟨_, H', ⟨by have := HJ3.out; have := HJ11.out; (omega)⟩, ⟨by exact HO_7.out⟩, ⟨by exact HO_8.out⟩, ⟨HB.out⟩⟩
    rw [if_pos c39] at H
    have c39b0 : decide (0 < (l1.length : Int)) = true := decide_eq_true c39
    have c39b1 : decide (0 < l1.length) = true := decide_eq_true (by omega)
    clear c39
    (rw [c39b1])
    replace H := Option.bind_eq_some_iff.mp H
    obtain ⟨t482, A400, H⟩ := H
    replace H : (if 0 < (l1.length : Int) then ((chain_Message.f kj11 t482 a2 ((rd_T42 l1 0).f0) ((rd_T42 l1 0).f1)).bind fun bt486 => ((notaryref47_First.f).bind fun t490 => ((notaryref47_Message.f kj11 t490 a2 ((rd_T42 l1 0).f0) ((rd_T42 l1 0).f1)).bind fun bt494 => (if bt486.2 = bt494.2 then ((notaryref01_Same.f kj11 bt486.1 bt494.1).bind fun t498 => (if t498 = true then (notarylaw47_ChainBuilds.j2 kj11 l0 l1 t459 t460 t461) else (some false))) else (some false))))) else (none)) = some r := H
    have A40 := Aside0.mk A400
    clear A400
    by_cases c41 : 0 < (l1.length : Int)
    rotate_left
    · rw [if_neg c41] at H
      exact absurd H (by simp)
    rw [if_pos c41] at H
    have c41b0 : decide (0 < (l1.length : Int)) = true := decide_eq_true c41
    have c41b1 : decide (0 < l1.length) = true := decide_eq_true (by omega)
    clear c41
    replace H := Option.bind_eq_some_iff.mp H
    obtain ⟨⟨t486, t489⟩, A420, H⟩ := H
    replace H : ((notaryref47_First.f).bind fun t490 => ((notaryref47_Message.f kj11 t490 a2 ((rd_T42 l1 0).f0) ((rd_T42 l1 0).f1)).bind fun bt494 => (if t489 = bt494.2 then ((notaryref01_Same.f kj11 t486 bt494.1).bind fun t498 => (if t498 = true then (notarylaw47_ChainBuilds.j2 kj11 l0 l1 t459 t460 t461) else (some false))) else (some false)))) = some r := H
    have A42 := Aside0.mk A420
    clear A420
    replace H := Option.bind_eq_some_iff.mp H
    obtain ⟨t490, A430, H⟩ := H
    replace H : ((notaryref47_Message.f kj11 t490 a2 ((rd_T42 l1 0).f0) ((rd_T42 l1 0).f1)).bind fun bt494 => (if t489 = bt494.2 then ((notaryref01_Same.f kj11 t486 bt494.1).bind fun t498 => (if t498 = true then (notarylaw47_ChainBuilds.j2 kj11 l0 l1 t459 t460 t461) else (some false))) else (some false))) = some r := H
    have A43 := Aside0.mk A430
    clear A430
    replace H := Option.bind_eq_some_iff.mp H
    obtain ⟨⟨t494, t497⟩, A440, H⟩ := H
    replace H : (if t489 = t497 then ((notaryref01_Same.f kj11 t486 t494).bind fun t498 => (if t498 = true then (notarylaw47_ChainBuilds.j2 kj11 l0 l1 t459 t460 t461) else (some false))) else (some false)) = some r := H
    have A44 := Aside0.mk A440
    clear A440
    by_cases c45 : t489 = t497
    rotate_left
    · rw [if_neg c45] at H
      have c45b0 : (t489 == t497) = false := beq_eq_false_iff_ne.mpr c45
      have c45b1 : (t489 != t497) = true := bne_iff_ne.mpr c45
      obtain rfl := Option.some.inj H
      try go_wp2
      have n0_ := Aside0.mk (Kd.R_drew HO_7.out)
      have n1_ := Aside0.mk (Kd.R_drew HO_8.out)
      have n2_ := Aside0.mk (below_drew1 HB.out)
      clear HO_7
      clear HO_8
      clear HB
      have HO_7 := n0_
      have HO_8 := n1_
      have HB := n2_
      clear n0_ n1_ n2_
      have p485 : 0 ≤ (0 : Int) := (by omega)
      have q485 : 0 < (l1.length : Int) := of_decide_eq_true (by (with_reducible assumption))
      obtain ⟨ad485, A485_1, c485_1, e485, hx485_0, hx485_1, hl485_1, hi485_1⟩ := at_T42 HR1.out 0 p485 q485
      have hw485_1 := hx485_1
      (try rw [show (0 : Int).toNat = 0 from rfl] at hw485_1)
      (try rw [show 0 * 2 = 0 from rfl] at hw485_1)
      (try rw [Addr.add_zero'] at hw485_1)
      have hw485_0 := hx485_0
      (try rw [show (0 : Int).toNat = 0 from rfl] at hw485_0)
      (try rw [show 0 * 2 = 0 from rfl] at hw485_0)
      (try rw [Addr.add_zero'] at hw485_0)
      cases e485
      have qi485 : (0 < l1.length) = True := eq_true (by omega)
      (try rw [show (0 : Int).toNat = 0 from rfl] at hx485_0)
      (try rw [show 0 * 2 = 0 from rfl] at hx485_0)
      (try rw [Addr.add_zero'] at hx485_0)
      (try rw [show (0 : Int).toNat = 0 from rfl] at hx485_1)
      (try rw [show 0 * 2 = 0 from rfl] at hx485_1)
      (try rw [Addr.add_zero'] at hx485_1)
      replace hx485_0 := pw_cell_below HB.out hx485_0
      replace hx485_1 := pw_cell_below HB.out hx485_1
      have HR485_1 := Aside0.mk hi485_1
      have HC485_1 := Aside0.mk hl485_1
      clear hi485_1 hl485_1
      replace p485 := eq_true p485
      replace q485 := eq_true q485
      refine start_ (n := 11) (S := fun w' => w'.cell? ad485 = some (.int .i64 ((rd_T42 l1 0).f0)) ∧ w'.cell? ⟨ad485.block, ad485.off + 1, none⟩ = some (.slice A485_1 ((rd_T42 l1 0).f1).length c485_1)) (ds := []) (bl 11 0) (by kernel_rfl) rfl rfl ⟨(pw_cell_below HB.out hw485_0), (pw_cell_below HB.out hw485_1)⟩ (fun hHeld => ?_); refine with_tabW notarylaw47_ChainBuilds.tab8 notarylaw47_ChainBuilds.bits8 (fun HT_ HW_ => ?_)
      generalize wc.drew = w68 at HO_7 HO_8 HB HR485_1 hx485_0 hx485_1 hHeld ⊢
      refine pure_ (i := 1) (N := some 68) (v := ?_) (a' := ?_) (bl 11 2) rfl rfl (any_of HT_.out (by kernel_rfl)) (fun _ _ _ h => h) (Or.inl ⟨by rfl, ?_⟩) ?_ ?_
      rotate_left
      · intro w'; go_simp; with_reducible rfl
      rotate_left
      · simp only [Act.put, sa_, sz_, ss_, i64_w, i32_w]; rfl
      refine pure_ (i := 2) (N := some 69) (v := ?_) (a' := ?_) (bl 11 6) rfl rfl (any_of HT_.out (by kernel_rfl)) (fun _ _ _ h => h) (Or.inl ⟨by rfl, ?_⟩) ?_ ?_
      rotate_left
      · intro w'; go_simp; with_reducible rfl
      rotate_left
      · simp only [Act.put, sa_, sz_, ss_, i64_w, i32_w]; rfl
      refine pure_ (i := 3) (N := some 70) (v := ?_) (a' := ?_) (bl 11 14) rfl rfl (any_of HT_.out (by kernel_rfl)) (fun _ _ _ h => h) (Or.inl ⟨by rfl, ?_⟩) ?_ ?_
      rotate_left
      · intro w'; go_simp; with_reducible rfl
      rotate_left
      · simp only [Act.put, sa_, sz_, ss_, i64_w, i32_w]; rfl
      refine take_ (i := 4) (N := some 71) (v := ?_) (a' := ?_) (bl 11 30) rfl rfl (take_ofW HT_.out HW_.out (by kernel_rfl)) (fun _ _ _ h => h) (Or.inl ⟨by rfl, ?_⟩) hHeld ?_ ?_
      rotate_left
      · rintro w' ⟨s0, s1⟩
        go_simp
        with_reducible rfl
      rotate_left
      · simp only [Act.put, sa_, sz_, ss_, i64_w, i32_w]; rfl
      refine one_ (i := 0) (N := some 67) (bl 11 31) rfl rfl (one_of HT_.out (by kernel_rfl)) (by decide) (fun K hK => ?_)
      refine goes_ Try.func19 (by kernel_rfl) rfl #[] (by rfl) rfl rfl (by (try simp only [List.map_toArray, List.map_cons, List.map_nil]); (done)) ?_
      with_reducible refine (notaryref47_First.calls  t482 _ A40.out).mono ?_
      rintro e w69 ⟨v483, rfl, ho0, hb⟩
      refine ⟨_, rfl, ?_⟩
      have n0_ := Aside0.mk (Kd.R_elder' (by exact HO_7.out) (Kd.R_base ho0) hb)
      have n1_ := Aside0.mk (Kd.R_elder' (by exact HO_8.out) (Kd.R_base ho0) hb)
      have n2_ := Aside0.mk (Kd.R_lower (Kd.R_new' (Kd.R_new' ho0 (Kd.R_lt (by exact HO_7.out))) (Kd.R_lt (by exact HO_8.out))) (below_size HB.out))
      have n3_ := Aside0.mk (below_step HB.out hb)
      clear HO_7
      clear HO_8
      clear HB
      have HO_7 := n0_
      have HO_8 := n1_
      have HO484 := n2_
      have HB := n3_
      clear n0_ n1_ n2_ n3_
      (try clear hb)
      (skip)
      (skip)
      (skip)
      (try clear ho0)
      obtain ⟨Ao70, co70, eo70⟩ := Kd.R_slice HO484.out
      (subst eo70)
      refine hK.out _ _ ⟨(pw_cell_below HB.out hw485_0), (pw_cell_below HB.out hw485_1)⟩ (fun hHeld => ?_)
      clear hK K
      refine norm_ (a' := ?_) ?_ ?_
      rotate_left
      · show Act.put _ (some 67) _ = _
        simp only [Act.put, sa_, sz_, ss_, i64_w, i32_w]
        rfl
      refine one_ (i := 5) (N := some 72) (bl 11 63) rfl rfl (one_of HT_.out (by kernel_rfl)) (by decide) (fun K hK => ?_)
      refine goes_ Try.func24 (by kernel_rfl) rfl #[.slice Ao70 t482.length co70, .int .u64 a2, .agg #[.int .i64 ((rd_T42 l1 0).f0), .slice A485_1 ((rd_T42 l1 0).f1).length c485_1]] (by rfl) rfl rfl (by (try simp only [List.map_toArray, List.map_cons, List.map_nil]); (rfl)) ?_
      with_reducible refine (chain_Message.calls kj11 _ _ t482 a2 ((rd_T42 l1 0).f0) _ _ ((rd_T42 l1 0).f1) t486 t489 _ ?side1 ?side2 ?side3 ?side4 A42.out).mono ?_
      (case side1 => repeat ((exact (Kd.R_reads' HO484.out).2.2)))
      (case side2 => exact (Kd.R_reads' HO484.out).2.1)
      (case side3 => exact Kd.C_below HR485_1.out HB.out)
      (case side4 => exact HC485_1.out)
      rintro e w71 ⟨v487, rfl, ho0, hb⟩
      refine ⟨_, rfl, ?_⟩
      have n0_ := Aside0.mk (Kd.R_elder' (by exact HO_7.out) (Kd.R_base ho0) hb)
      have n1_ := Aside0.mk (Kd.R_elder' (by exact HO_8.out) (Kd.R_base ho0) hb)
      have n2_ := Aside0.mk (Kd.R_elder' (by exact HO484.out) (Kd.R_base ho0) hb)
      have n3_ := Aside0.mk (Kd.R_lower (Kd.R_new' (Kd.R_new' (Kd.R_new' ho0 (Kd.R_lt (by exact HO_7.out))) (Kd.R_lt (by exact HO_8.out))) (Kd.R_lt (by exact HO484.out))) (below_size HB.out))
      have n4_ := Aside0.mk (below_step HB.out hb)
      clear HO_7
      clear HO_8
      clear HO484
      clear HB
      have HO_7 := n0_
      have HO_8 := n1_
      have HO484 := n2_
      have HO488 := n3_
      have HB := n4_
      clear n0_ n1_ n2_ n3_ n4_
      (try clear hb)
      (skip)
      (skip)
      (skip)
      (try clear ho0)
      refine hK.out _ _ ⟨(pw_cell_below HB.out hw485_0), (pw_cell_below HB.out hw485_1)⟩ (fun hHeld => ?_)
      clear hK K
      refine norm_ (a' := ?_) ?_ ?_
      rotate_left
      · show Act.put _ (some 72) _ = _
        simp only [Act.put, sa_, sz_, ss_, i64_w, i32_w]
        rfl
      refine pure_ (i := 6) (N := some 66) (v := ?_) (a' := ?_) (bl 11 127) rfl rfl (any_of HT_.out (by kernel_rfl)) (fun _ _ _ h => h) (Or.inl ⟨by rfl, ?_⟩) ?_ ?_
      rotate_left
      · intro w'; go_simp; with_reducible rfl
      rotate_left
      · simp only [Act.put, sa_, sz_, ss_, i64_w, i32_w]; rfl
      refine pure_ (i := 7) (N := some 73) (v := ?_) (a' := ?_) (bl 11 255) rfl rfl (any_of HT_.out (by kernel_rfl)) (fun _ _ _ h => h) (Or.inl ⟨by rfl, ?_⟩) ?_ ?_
      rotate_left
      · intro w'; go_simp; with_reducible rfl
      rotate_left
      · simp only [Act.put, sa_, sz_, ss_, i64_w, i32_w]; rfl
      refine pure_ (i := 8) (N := some 74) (v := ?_) (a' := ?_) (bl 11 511) rfl rfl (any_of HT_.out (by kernel_rfl)) (fun _ _ _ h => h) (Or.inl ⟨by rfl, ?_⟩) ?_ ?_
      rotate_left
      · intro w'; go_simp; with_reducible rfl
      rotate_left
      · simp only [Act.put, sa_, sz_, ss_, i64_w, i32_w]; rfl
      refine pure_ (i := 9) (N := some 13) (v := ?_) (a' := ?_) (bl 11 1023) rfl rfl (any_of HT_.out (by kernel_rfl)) (fun _ _ _ h => h) (Or.inl ⟨by rfl, ?_⟩) ?_ ?_
      rotate_left
      · intro w'; go_simp; with_reducible rfl
      rotate_left
      · simp only [Act.put, sa_, sz_, ss_, i64_w, i32_w]; rfl
      refine pure_ (i := 10) (N := some 14) (v := ?_) (a' := ?_) (bl 11 2047) rfl rfl (any_of HT_.out (by kernel_rfl)) (fun _ _ _ h => h) (Or.inl ⟨by rfl, ?_⟩) ?_ ?_
      rotate_left
      · intro w'; go_simp; with_reducible rfl
      rotate_left
      · simp only [Act.put, sa_, sz_, ss_, i64_w, i32_w]; rfl
      refine done_ (done_of HT_.out (by kernel_rfl)) ?_
      try go_wp2
      have n0_ := Aside0.mk (Kd.R_drew HO_7.out)
      have n1_ := Aside0.mk (Kd.R_drew HO_8.out)
      have n2_ := Aside0.mk (Kd.R_drew HO484.out)
      have n3_ := Aside0.mk (Kd.R_drew HO488.out)
      have n4_ := Aside0.mk (below_drew1 HB.out)
      clear HO_7
      clear HO_8
      clear HO484
      clear HO488
      clear HB
      have HO_7 := n0_
      have HO_8 := n1_
      have HO484 := n2_
      have HO488 := n3_
      have HB := n4_
      clear n0_ n1_ n2_ n3_ n4_
      have p493 : 0 ≤ (0 : Int) := (by omega)
      have q493 : 0 < (l1.length : Int) := of_decide_eq_true (by (with_reducible assumption))
      obtain ⟨ad493, A493_1, c493_1, e493, hx493_0, hx493_1, hl493_1, hi493_1⟩ := at_T42 HR1.out 0 p493 q493
      have hw493_1 := hx493_1
      (try rw [show (0 : Int).toNat = 0 from rfl] at hw493_1)
      (try rw [show 0 * 2 = 0 from rfl] at hw493_1)
      (try rw [Addr.add_zero'] at hw493_1)
      have hw493_0 := hx493_0
      (try rw [show (0 : Int).toNat = 0 from rfl] at hw493_0)
      (try rw [show 0 * 2 = 0 from rfl] at hw493_0)
      (try rw [Addr.add_zero'] at hw493_0)
      obtain rfl : ad485 = ad493 := (by injection e493)
      have qi493 : (0 < l1.length) = True := eq_true (by omega)
      (try rw [show (0 : Int).toNat = 0 from rfl] at hx493_0)
      (try rw [show 0 * 2 = 0 from rfl] at hx493_0)
      (try rw [Addr.add_zero'] at hx493_0)
      (try rw [show (0 : Int).toNat = 0 from rfl] at hx493_1)
      (try rw [show 0 * 2 = 0 from rfl] at hx493_1)
      (try rw [Addr.add_zero'] at hx493_1)
      replace hx493_0 := pw_cell_below HB.out hx493_0
      replace hx493_1 := pw_cell_below HB.out hx493_1
      have HR493_1 := Aside0.mk hi493_1
      have HC493_1 := Aside0.mk hl493_1
      clear hi493_1 hl493_1
      replace p493 := eq_true p493
      replace q493 := eq_true q493
      refine start_ (n := 11) (S := fun w' => w'.cell? ad485 = some (.int .i64 ((rd_T42 l1 0).f0)) ∧ w'.cell? ⟨ad485.block, ad485.off + 1, none⟩ = some (.slice A493_1 ((rd_T42 l1 0).f1).length c493_1)) (ds := []) (bl 11 0) (by kernel_rfl) rfl rfl ⟨(pw_cell_below HB.out hw493_0), (pw_cell_below HB.out hw493_1)⟩ (fun hHeld => ?_); refine with_tabW notarylaw47_ChainBuilds.tab9 notarylaw47_ChainBuilds.bits9 (fun HT_ HW_ => ?_)
      generalize w71.drew = w72 at HO_7 HO_8 HO484 HO488 HB HR493_1 hx493_0 hx493_1 hHeld ⊢
      refine pure_ (i := 1) (N := some 77) (v := ?_) (a' := ?_) (bl 11 2) rfl rfl (any_of HT_.out (by kernel_rfl)) (fun _ _ _ h => h) (Or.inl ⟨by rfl, ?_⟩) ?_ ?_
      rotate_left
      · intro w'; go_simp; with_reducible rfl
      rotate_left
      · simp only [Act.put, sa_, sz_, ss_, i64_w, i32_w]; rfl
      refine pure_ (i := 2) (N := some 78) (v := ?_) (a' := ?_) (bl 11 6) rfl rfl (any_of HT_.out (by kernel_rfl)) (fun _ _ _ h => h) (Or.inl ⟨by rfl, ?_⟩) ?_ ?_
      rotate_left
      · intro w'; go_simp; with_reducible rfl
      rotate_left
      · simp only [Act.put, sa_, sz_, ss_, i64_w, i32_w]; rfl
      refine pure_ (i := 3) (N := some 79) (v := ?_) (a' := ?_) (bl 11 14) rfl rfl (any_of HT_.out (by kernel_rfl)) (fun _ _ _ h => h) (Or.inl ⟨by rfl, ?_⟩) ?_ ?_
      rotate_left
      · intro w'; go_simp; with_reducible rfl
      rotate_left
      · simp only [Act.put, sa_, sz_, ss_, i64_w, i32_w]; rfl
      refine take_ (i := 4) (N := some 80) (v := ?_) (a' := ?_) (bl 11 30) rfl rfl (take_ofW HT_.out HW_.out (by kernel_rfl)) (fun _ _ _ h => h) (Or.inl ⟨by rfl, ?_⟩) hHeld ?_ ?_
      rotate_left
      · rintro w' ⟨s0, s1⟩
        go_simp
        with_reducible rfl
      rotate_left
      · simp only [Act.put, sa_, sz_, ss_, i64_w, i32_w]; rfl
      refine one_ (i := 0) (N := some 76) (bl 11 31) rfl rfl (one_of HT_.out (by kernel_rfl)) (by decide) (fun K hK => ?_)
      refine goes_ Try.func19 (by kernel_rfl) rfl #[] (by rfl) rfl rfl (by (try simp only [List.map_toArray, List.map_cons, List.map_nil]); (done)) ?_
      with_reducible refine (notaryref47_First.calls  t490 _ A43.out).mono ?_
      rintro e w73 ⟨v491, rfl, ho0, hb⟩
      refine ⟨_, rfl, ?_⟩
      have n0_ := Aside0.mk (Kd.R_elder' (by exact HO_7.out) (Kd.R_base ho0) hb)
      have n1_ := Aside0.mk (Kd.R_elder' (by exact HO_8.out) (Kd.R_base ho0) hb)
      have n2_ := Aside0.mk (Kd.R_elder' (by exact HO484.out) (Kd.R_base ho0) hb)
      have n3_ := Aside0.mk (Kd.R_elder' (by exact HO488.out) (Kd.R_base ho0) hb)
      have n4_ := Aside0.mk (Kd.R_lower (Kd.R_new' (Kd.R_new' (Kd.R_new' (Kd.R_new' ho0 (Kd.R_lt (by exact HO_7.out))) (Kd.R_lt (by exact HO_8.out))) (Kd.R_lt (by exact HO484.out))) (Kd.R_lt (by exact HO488.out))) (below_size HB.out))
      have n5_ := Aside0.mk (below_step HB.out hb)
      clear HO_7
      clear HO_8
      clear HO484
      clear HO488
      clear HB
      have HO_7 := n0_
      have HO_8 := n1_
      have HO484 := n2_
      have HO488 := n3_
      have HO492 := n4_
      have HB := n5_
      clear n0_ n1_ n2_ n3_ n4_ n5_
      (try clear hb)
      (skip)
      (skip)
      (skip)
      (try clear ho0)
      obtain ⟨Ao74, co74, eo74⟩ := Kd.R_slice HO492.out
      (subst eo74)
      refine hK.out _ _ ⟨(pw_cell_below HB.out hw493_0), (pw_cell_below HB.out hw493_1)⟩ (fun hHeld => ?_)
      clear hK K
      refine norm_ (a' := ?_) ?_ ?_
      rotate_left
      · show Act.put _ (some 76) _ = _
        simp only [Act.put, sa_, sz_, ss_, i64_w, i32_w]
        rfl
      refine one_ (i := 5) (N := some 81) (bl 11 63) rfl rfl (one_of HT_.out (by kernel_rfl)) (by decide) (fun K hK => ?_)
      refine goes_ Try.func20 (by kernel_rfl) rfl #[.slice Ao74 t490.length co74, .int .u64 a2, .agg #[.int .i64 ((rd_T42 l1 0).f0), .slice A493_1 ((rd_T42 l1 0).f1).length c493_1]] (by rfl) rfl rfl (by (try simp only [List.map_toArray, List.map_cons, List.map_nil]); (rfl)) ?_
      with_reducible refine (notaryref47_Message.calls kj11 _ _ t490 a2 ((rd_T42 l1 0).f0) _ _ ((rd_T42 l1 0).f1) t494 t497 _ ?side1 ?side2 ?side3 ?side4 A44.out).mono ?_
      (case side1 => repeat ((exact (Kd.R_reads' HO492.out).2.2)))
      (case side2 => exact (Kd.R_reads' HO492.out).2.1)
      (case side3 => exact Kd.C_below HR493_1.out HB.out)
      (case side4 => exact HC493_1.out)
      rintro e w75 ⟨v495, rfl, ho0, hb⟩
      refine ⟨_, rfl, ?_⟩
      have n0_ := Aside0.mk (Kd.R_elder' (by exact HO_7.out) (Kd.R_base ho0) hb)
      have n1_ := Aside0.mk (Kd.R_elder' (by exact HO_8.out) (Kd.R_base ho0) hb)
      have n2_ := Aside0.mk (Kd.R_elder' (by exact HO484.out) (Kd.R_base ho0) hb)
      have n3_ := Aside0.mk (Kd.R_elder' (by exact HO488.out) (Kd.R_base ho0) hb)
      have n4_ := Aside0.mk (Kd.R_elder' (by exact HO492.out) (Kd.R_base ho0) hb)
      have n5_ := Aside0.mk (Kd.R_lower (Kd.R_new' (Kd.R_new' (Kd.R_new' (Kd.R_new' (Kd.R_new' ho0 (Kd.R_lt (by exact HO_7.out))) (Kd.R_lt (by exact HO_8.out))) (Kd.R_lt (by exact HO484.out))) (Kd.R_lt (by exact HO488.out))) (Kd.R_lt (by exact HO492.out))) (below_size HB.out))
      have n6_ := Aside0.mk (below_step HB.out hb)
      clear HO_7
      clear HO_8
      clear HO484
      clear HO488
      clear HO492
      clear HB
      have HO_7 := n0_
      have HO_8 := n1_
      have HO484 := n2_
      have HO488 := n3_
      have HO492 := n4_
      have HO496 := n5_
      have HB := n6_
      clear n0_ n1_ n2_ n3_ n4_ n5_ n6_
      (try clear hb)
      (skip)
      (skip)
      (skip)
      (try clear ho0)
      refine hK.out _ _ ⟨(pw_cell_below HB.out hw493_0), (pw_cell_below HB.out hw493_1)⟩ (fun hHeld => ?_)
      clear hK K
      refine norm_ (a' := ?_) ?_ ?_
      rotate_left
      · show Act.put _ (some 81) _ = _
        simp only [Act.put, sa_, sz_, ss_, i64_w, i32_w]
        rfl
      refine pure_ (i := 6) (N := some 75) (v := ?_) (a' := ?_) (bl 11 127) rfl rfl (any_of HT_.out (by kernel_rfl)) (fun _ _ _ h => h) (Or.inl ⟨by rfl, ?_⟩) ?_ ?_
      rotate_left
      · intro w'; go_simp; with_reducible rfl
      rotate_left
      · simp only [Act.put, sa_, sz_, ss_, i64_w, i32_w]; rfl
      refine pure_ (i := 7) (N := some 82) (v := ?_) (a' := ?_) (bl 11 255) rfl rfl (any_of HT_.out (by kernel_rfl)) (fun _ _ _ h => h) (Or.inl ⟨by rfl, ?_⟩) ?_ ?_
      rotate_left
      · intro w'; go_simp; with_reducible rfl
      rotate_left
      · simp only [Act.put, sa_, sz_, ss_, i64_w, i32_w]; rfl
      refine pure_ (i := 8) (N := some 83) (v := ?_) (a' := ?_) (bl 11 511) rfl rfl (any_of HT_.out (by kernel_rfl)) (fun _ _ _ h => h) (Or.inl ⟨by rfl, ?_⟩) ?_ ?_
      rotate_left
      · intro w'; go_simp; with_reducible rfl
      rotate_left
      · simp only [Act.put, sa_, sz_, ss_, i64_w, i32_w]; rfl
      refine pure_ (i := 9) (N := some 15) (v := ?_) (a' := ?_) (bl 11 1023) rfl rfl (any_of HT_.out (by kernel_rfl)) (fun _ _ _ h => h) (Or.inl ⟨by rfl, ?_⟩) ?_ ?_
      rotate_left
      · intro w'; go_simp; with_reducible rfl
      rotate_left
      · simp only [Act.put, sa_, sz_, ss_, i64_w, i32_w]; rfl
      refine pure_ (i := 10) (N := some 16) (v := ?_) (a' := ?_) (bl 11 2047) rfl rfl (any_of HT_.out (by kernel_rfl)) (fun _ _ _ h => h) (Or.inl ⟨by rfl, ?_⟩) ?_ ?_
      rotate_left
      · intro w'; go_simp; with_reducible rfl
      rotate_left
      · simp only [Act.put, sa_, sz_, ss_, i64_w, i32_w]; rfl
      refine done_ (done_of HT_.out (by kernel_rfl)) ?_
      try go_wp2
      go_ret
      exact ⟨by (rfl), HB.out⟩
    rw [if_pos c45] at H
    have c45b0 : (t489 == t497) = true := beq_iff_eq.mpr c45
    have c45b1 : (t489 != t497) = false := bne_eq_false_iff_eq.mpr c45
    clear c45
    replace H := Option.bind_eq_some_iff.mp H
    obtain ⟨t498, A460, H⟩ := H
    replace H : (if t498 = true then (notarylaw47_ChainBuilds.j2 kj11 l0 l1 t459 t460 t461) else (some false)) = some r := H
    have A46 := Aside0.mk A460
    clear A460
    by_cases c47 : t498 = true
    rotate_left
    · replace c47 := Bool.eq_false_iff.mpr c47
      subst c47
      have H1 : (some false) = some r := by rw [if_neg (show ¬ (false = true) by decide)] at H; exact H
      clear H
      have H := H1
      clear H1
      obtain rfl := Option.some.inj H
      try go_wp2
      have n0_ := Aside0.mk (Kd.R_drew HO_7.out)
      have n1_ := Aside0.mk (Kd.R_drew HO_8.out)
      have n2_ := Aside0.mk (below_drew1 HB.out)
      clear HO_7
      clear HO_8
      clear HB
      have HO_7 := n0_
      have HO_8 := n1_
      have HB := n2_
      clear n0_ n1_ n2_
      have p485 : 0 ≤ (0 : Int) := (by omega)
      have q485 : 0 < (l1.length : Int) := of_decide_eq_true (by (with_reducible assumption))
      obtain ⟨ad485, A485_1, c485_1, e485, hx485_0, hx485_1, hl485_1, hi485_1⟩ := at_T42 HR1.out 0 p485 q485
      have hw485_1 := hx485_1
      (try rw [show (0 : Int).toNat = 0 from rfl] at hw485_1)
      (try rw [show 0 * 2 = 0 from rfl] at hw485_1)
      (try rw [Addr.add_zero'] at hw485_1)
      have hw485_0 := hx485_0
      (try rw [show (0 : Int).toNat = 0 from rfl] at hw485_0)
      (try rw [show 0 * 2 = 0 from rfl] at hw485_0)
      (try rw [Addr.add_zero'] at hw485_0)
      cases e485
      have qi485 : (0 < l1.length) = True := eq_true (by omega)
      (try rw [show (0 : Int).toNat = 0 from rfl] at hx485_0)
      (try rw [show 0 * 2 = 0 from rfl] at hx485_0)
      (try rw [Addr.add_zero'] at hx485_0)
      (try rw [show (0 : Int).toNat = 0 from rfl] at hx485_1)
      (try rw [show 0 * 2 = 0 from rfl] at hx485_1)
      (try rw [Addr.add_zero'] at hx485_1)
      replace hx485_0 := pw_cell_below HB.out hx485_0
      replace hx485_1 := pw_cell_below HB.out hx485_1
      have HR485_1 := Aside0.mk hi485_1
      have HC485_1 := Aside0.mk hl485_1
      clear hi485_1 hl485_1
      replace p485 := eq_true p485
      replace q485 := eq_true q485
      refine start_ (n := 11) (S := fun w' => w'.cell? ad485 = some (.int .i64 ((rd_T42 l1 0).f0)) ∧ w'.cell? ⟨ad485.block, ad485.off + 1, none⟩ = some (.slice A485_1 ((rd_T42 l1 0).f1).length c485_1)) (ds := []) (bl 11 0) (by kernel_rfl) rfl rfl ⟨(pw_cell_below HB.out hw485_0), (pw_cell_below HB.out hw485_1)⟩ (fun hHeld => ?_); refine with_tabW notarylaw47_ChainBuilds.tab8 notarylaw47_ChainBuilds.bits8 (fun HT_ HW_ => ?_)
      generalize wc.drew = w58 at HO_7 HO_8 HB HR485_1 hx485_0 hx485_1 hHeld ⊢
      refine pure_ (i := 1) (N := some 68) (v := ?_) (a' := ?_) (bl 11 2) rfl rfl (any_of HT_.out (by kernel_rfl)) (fun _ _ _ h => h) (Or.inl ⟨by rfl, ?_⟩) ?_ ?_
      rotate_left
      · intro w'; go_simp; with_reducible rfl
      rotate_left
      · simp only [Act.put, sa_, sz_, ss_, i64_w, i32_w]; rfl
      refine pure_ (i := 2) (N := some 69) (v := ?_) (a' := ?_) (bl 11 6) rfl rfl (any_of HT_.out (by kernel_rfl)) (fun _ _ _ h => h) (Or.inl ⟨by rfl, ?_⟩) ?_ ?_
      rotate_left
      · intro w'; go_simp; with_reducible rfl
      rotate_left
      · simp only [Act.put, sa_, sz_, ss_, i64_w, i32_w]; rfl
      refine pure_ (i := 3) (N := some 70) (v := ?_) (a' := ?_) (bl 11 14) rfl rfl (any_of HT_.out (by kernel_rfl)) (fun _ _ _ h => h) (Or.inl ⟨by rfl, ?_⟩) ?_ ?_
      rotate_left
      · intro w'; go_simp; with_reducible rfl
      rotate_left
      · simp only [Act.put, sa_, sz_, ss_, i64_w, i32_w]; rfl
      refine take_ (i := 4) (N := some 71) (v := ?_) (a' := ?_) (bl 11 30) rfl rfl (take_ofW HT_.out HW_.out (by kernel_rfl)) (fun _ _ _ h => h) (Or.inl ⟨by rfl, ?_⟩) hHeld ?_ ?_
      rotate_left
      · rintro w' ⟨s0, s1⟩
        go_simp
        with_reducible rfl
      rotate_left
      · simp only [Act.put, sa_, sz_, ss_, i64_w, i32_w]; rfl
      refine one_ (i := 0) (N := some 67) (bl 11 31) rfl rfl (one_of HT_.out (by kernel_rfl)) (by decide) (fun K hK => ?_)
      refine goes_ Try.func19 (by kernel_rfl) rfl #[] (by rfl) rfl rfl (by (try simp only [List.map_toArray, List.map_cons, List.map_nil]); (done)) ?_
      with_reducible refine (notaryref47_First.calls  t482 _ A40.out).mono ?_
      rintro e w59 ⟨v483, rfl, ho0, hb⟩
      refine ⟨_, rfl, ?_⟩
      have n0_ := Aside0.mk (Kd.R_elder' (by exact HO_7.out) (Kd.R_base ho0) hb)
      have n1_ := Aside0.mk (Kd.R_elder' (by exact HO_8.out) (Kd.R_base ho0) hb)
      have n2_ := Aside0.mk (Kd.R_lower (Kd.R_new' (Kd.R_new' ho0 (Kd.R_lt (by exact HO_7.out))) (Kd.R_lt (by exact HO_8.out))) (below_size HB.out))
      have n3_ := Aside0.mk (below_step HB.out hb)
      clear HO_7
      clear HO_8
      clear HB
      have HO_7 := n0_
      have HO_8 := n1_
      have HO484 := n2_
      have HB := n3_
      clear n0_ n1_ n2_ n3_
      (try clear hb)
      (skip)
      (skip)
      (skip)
      (try clear ho0)
      obtain ⟨Ao60, co60, eo60⟩ := Kd.R_slice HO484.out
      (subst eo60)
      refine hK.out _ _ ⟨(pw_cell_below HB.out hw485_0), (pw_cell_below HB.out hw485_1)⟩ (fun hHeld => ?_)
      clear hK K
      refine norm_ (a' := ?_) ?_ ?_
      rotate_left
      · show Act.put _ (some 67) _ = _
        simp only [Act.put, sa_, sz_, ss_, i64_w, i32_w]
        rfl
      refine one_ (i := 5) (N := some 72) (bl 11 63) rfl rfl (one_of HT_.out (by kernel_rfl)) (by decide) (fun K hK => ?_)
      refine goes_ Try.func24 (by kernel_rfl) rfl #[.slice Ao60 t482.length co60, .int .u64 a2, .agg #[.int .i64 ((rd_T42 l1 0).f0), .slice A485_1 ((rd_T42 l1 0).f1).length c485_1]] (by rfl) rfl rfl (by (try simp only [List.map_toArray, List.map_cons, List.map_nil]); (rfl)) ?_
      with_reducible refine (chain_Message.calls kj11 _ _ t482 a2 ((rd_T42 l1 0).f0) _ _ ((rd_T42 l1 0).f1) t486 t489 _ ?side1 ?side2 ?side3 ?side4 A42.out).mono ?_
      (case side1 => repeat ((exact (Kd.R_reads' HO484.out).2.2)))
      (case side2 => exact (Kd.R_reads' HO484.out).2.1)
      (case side3 => exact Kd.C_below HR485_1.out HB.out)
      (case side4 => exact HC485_1.out)
      rintro e w61 ⟨v487, rfl, ho0, hb⟩
      refine ⟨_, rfl, ?_⟩
      have n0_ := Aside0.mk (Kd.R_elder' (by exact HO_7.out) (Kd.R_base ho0) hb)
      have n1_ := Aside0.mk (Kd.R_elder' (by exact HO_8.out) (Kd.R_base ho0) hb)
      have n2_ := Aside0.mk (Kd.R_elder' (by exact HO484.out) (Kd.R_base ho0) hb)
      have n3_ := Aside0.mk (Kd.R_lower (Kd.R_new' (Kd.R_new' (Kd.R_new' ho0 (Kd.R_lt (by exact HO_7.out))) (Kd.R_lt (by exact HO_8.out))) (Kd.R_lt (by exact HO484.out))) (below_size HB.out))
      have n4_ := Aside0.mk (below_step HB.out hb)
      clear HO_7
      clear HO_8
      clear HO484
      clear HB
      have HO_7 := n0_
      have HO_8 := n1_
      have HO484 := n2_
      have HO488 := n3_
      have HB := n4_
      clear n0_ n1_ n2_ n3_ n4_
      (try clear hb)
      (skip)
      (skip)
      (skip)
      (try clear ho0)
      refine hK.out _ _ ⟨(pw_cell_below HB.out hw485_0), (pw_cell_below HB.out hw485_1)⟩ (fun hHeld => ?_)
      clear hK K
      refine norm_ (a' := ?_) ?_ ?_
      rotate_left
      · show Act.put _ (some 72) _ = _
        simp only [Act.put, sa_, sz_, ss_, i64_w, i32_w]
        rfl
      refine pure_ (i := 6) (N := some 66) (v := ?_) (a' := ?_) (bl 11 127) rfl rfl (any_of HT_.out (by kernel_rfl)) (fun _ _ _ h => h) (Or.inl ⟨by rfl, ?_⟩) ?_ ?_
      rotate_left
      · intro w'; go_simp; with_reducible rfl
      rotate_left
      · simp only [Act.put, sa_, sz_, ss_, i64_w, i32_w]; rfl
      refine pure_ (i := 7) (N := some 73) (v := ?_) (a' := ?_) (bl 11 255) rfl rfl (any_of HT_.out (by kernel_rfl)) (fun _ _ _ h => h) (Or.inl ⟨by rfl, ?_⟩) ?_ ?_
      rotate_left
      · intro w'; go_simp; with_reducible rfl
      rotate_left
      · simp only [Act.put, sa_, sz_, ss_, i64_w, i32_w]; rfl
      refine pure_ (i := 8) (N := some 74) (v := ?_) (a' := ?_) (bl 11 511) rfl rfl (any_of HT_.out (by kernel_rfl)) (fun _ _ _ h => h) (Or.inl ⟨by rfl, ?_⟩) ?_ ?_
      rotate_left
      · intro w'; go_simp; with_reducible rfl
      rotate_left
      · simp only [Act.put, sa_, sz_, ss_, i64_w, i32_w]; rfl
      refine pure_ (i := 9) (N := some 13) (v := ?_) (a' := ?_) (bl 11 1023) rfl rfl (any_of HT_.out (by kernel_rfl)) (fun _ _ _ h => h) (Or.inl ⟨by rfl, ?_⟩) ?_ ?_
      rotate_left
      · intro w'; go_simp; with_reducible rfl
      rotate_left
      · simp only [Act.put, sa_, sz_, ss_, i64_w, i32_w]; rfl
      refine pure_ (i := 10) (N := some 14) (v := ?_) (a' := ?_) (bl 11 2047) rfl rfl (any_of HT_.out (by kernel_rfl)) (fun _ _ _ h => h) (Or.inl ⟨by rfl, ?_⟩) ?_ ?_
      rotate_left
      · intro w'; go_simp; with_reducible rfl
      rotate_left
      · simp only [Act.put, sa_, sz_, ss_, i64_w, i32_w]; rfl
      refine done_ (done_of HT_.out (by kernel_rfl)) ?_
      try go_wp2
      have n0_ := Aside0.mk (Kd.R_drew HO_7.out)
      have n1_ := Aside0.mk (Kd.R_drew HO_8.out)
      have n2_ := Aside0.mk (Kd.R_drew HO484.out)
      have n3_ := Aside0.mk (Kd.R_drew HO488.out)
      have n4_ := Aside0.mk (below_drew1 HB.out)
      clear HO_7
      clear HO_8
      clear HO484
      clear HO488
      clear HB
      have HO_7 := n0_
      have HO_8 := n1_
      have HO484 := n2_
      have HO488 := n3_
      have HB := n4_
      clear n0_ n1_ n2_ n3_ n4_
      have p493 : 0 ≤ (0 : Int) := (by omega)
      have q493 : 0 < (l1.length : Int) := of_decide_eq_true (by (with_reducible assumption))
      obtain ⟨ad493, A493_1, c493_1, e493, hx493_0, hx493_1, hl493_1, hi493_1⟩ := at_T42 HR1.out 0 p493 q493
      have hw493_1 := hx493_1
      (try rw [show (0 : Int).toNat = 0 from rfl] at hw493_1)
      (try rw [show 0 * 2 = 0 from rfl] at hw493_1)
      (try rw [Addr.add_zero'] at hw493_1)
      have hw493_0 := hx493_0
      (try rw [show (0 : Int).toNat = 0 from rfl] at hw493_0)
      (try rw [show 0 * 2 = 0 from rfl] at hw493_0)
      (try rw [Addr.add_zero'] at hw493_0)
      obtain rfl : ad485 = ad493 := (by injection e493)
      have qi493 : (0 < l1.length) = True := eq_true (by omega)
      (try rw [show (0 : Int).toNat = 0 from rfl] at hx493_0)
      (try rw [show 0 * 2 = 0 from rfl] at hx493_0)
      (try rw [Addr.add_zero'] at hx493_0)
      (try rw [show (0 : Int).toNat = 0 from rfl] at hx493_1)
      (try rw [show 0 * 2 = 0 from rfl] at hx493_1)
      (try rw [Addr.add_zero'] at hx493_1)
      replace hx493_0 := pw_cell_below HB.out hx493_0
      replace hx493_1 := pw_cell_below HB.out hx493_1
      have HR493_1 := Aside0.mk hi493_1
      have HC493_1 := Aside0.mk hl493_1
      clear hi493_1 hl493_1
      replace p493 := eq_true p493
      replace q493 := eq_true q493
      refine start_ (n := 11) (S := fun w' => w'.cell? ad485 = some (.int .i64 ((rd_T42 l1 0).f0)) ∧ w'.cell? ⟨ad485.block, ad485.off + 1, none⟩ = some (.slice A493_1 ((rd_T42 l1 0).f1).length c493_1)) (ds := []) (bl 11 0) (by kernel_rfl) rfl rfl ⟨(pw_cell_below HB.out hw493_0), (pw_cell_below HB.out hw493_1)⟩ (fun hHeld => ?_); refine with_tabW notarylaw47_ChainBuilds.tab9 notarylaw47_ChainBuilds.bits9 (fun HT_ HW_ => ?_)
      generalize w61.drew = w62 at HO_7 HO_8 HO484 HO488 HB HR493_1 hx493_0 hx493_1 hHeld ⊢
      refine pure_ (i := 1) (N := some 77) (v := ?_) (a' := ?_) (bl 11 2) rfl rfl (any_of HT_.out (by kernel_rfl)) (fun _ _ _ h => h) (Or.inl ⟨by rfl, ?_⟩) ?_ ?_
      rotate_left
      · intro w'; go_simp; with_reducible rfl
      rotate_left
      · simp only [Act.put, sa_, sz_, ss_, i64_w, i32_w]; rfl
      refine pure_ (i := 2) (N := some 78) (v := ?_) (a' := ?_) (bl 11 6) rfl rfl (any_of HT_.out (by kernel_rfl)) (fun _ _ _ h => h) (Or.inl ⟨by rfl, ?_⟩) ?_ ?_
      rotate_left
      · intro w'; go_simp; with_reducible rfl
      rotate_left
      · simp only [Act.put, sa_, sz_, ss_, i64_w, i32_w]; rfl
      refine pure_ (i := 3) (N := some 79) (v := ?_) (a' := ?_) (bl 11 14) rfl rfl (any_of HT_.out (by kernel_rfl)) (fun _ _ _ h => h) (Or.inl ⟨by rfl, ?_⟩) ?_ ?_
      rotate_left
      · intro w'; go_simp; with_reducible rfl
      rotate_left
      · simp only [Act.put, sa_, sz_, ss_, i64_w, i32_w]; rfl
      refine take_ (i := 4) (N := some 80) (v := ?_) (a' := ?_) (bl 11 30) rfl rfl (take_ofW HT_.out HW_.out (by kernel_rfl)) (fun _ _ _ h => h) (Or.inl ⟨by rfl, ?_⟩) hHeld ?_ ?_
      rotate_left
      · rintro w' ⟨s0, s1⟩
        go_simp
        with_reducible rfl
      rotate_left
      · simp only [Act.put, sa_, sz_, ss_, i64_w, i32_w]; rfl
      refine one_ (i := 0) (N := some 76) (bl 11 31) rfl rfl (one_of HT_.out (by kernel_rfl)) (by decide) (fun K hK => ?_)
      refine goes_ Try.func19 (by kernel_rfl) rfl #[] (by rfl) rfl rfl (by (try simp only [List.map_toArray, List.map_cons, List.map_nil]); (done)) ?_
      with_reducible refine (notaryref47_First.calls  t490 _ A43.out).mono ?_
      rintro e w63 ⟨v491, rfl, ho0, hb⟩
      refine ⟨_, rfl, ?_⟩
      have n0_ := Aside0.mk (Kd.R_elder' (by exact HO_7.out) (Kd.R_base ho0) hb)
      have n1_ := Aside0.mk (Kd.R_elder' (by exact HO_8.out) (Kd.R_base ho0) hb)
      have n2_ := Aside0.mk (Kd.R_elder' (by exact HO484.out) (Kd.R_base ho0) hb)
      have n3_ := Aside0.mk (Kd.R_elder' (by exact HO488.out) (Kd.R_base ho0) hb)
      have n4_ := Aside0.mk (Kd.R_lower (Kd.R_new' (Kd.R_new' (Kd.R_new' (Kd.R_new' ho0 (Kd.R_lt (by exact HO_7.out))) (Kd.R_lt (by exact HO_8.out))) (Kd.R_lt (by exact HO484.out))) (Kd.R_lt (by exact HO488.out))) (below_size HB.out))
      have n5_ := Aside0.mk (below_step HB.out hb)
      clear HO_7
      clear HO_8
      clear HO484
      clear HO488
      clear HB
      have HO_7 := n0_
      have HO_8 := n1_
      have HO484 := n2_
      have HO488 := n3_
      have HO492 := n4_
      have HB := n5_
      clear n0_ n1_ n2_ n3_ n4_ n5_
      (try clear hb)
      (skip)
      (skip)
      (skip)
      (try clear ho0)
      obtain ⟨Ao64, co64, eo64⟩ := Kd.R_slice HO492.out
      (subst eo64)
      refine hK.out _ _ ⟨(pw_cell_below HB.out hw493_0), (pw_cell_below HB.out hw493_1)⟩ (fun hHeld => ?_)
      clear hK K
      refine norm_ (a' := ?_) ?_ ?_
      rotate_left
      · show Act.put _ (some 76) _ = _
        simp only [Act.put, sa_, sz_, ss_, i64_w, i32_w]
        rfl
      refine one_ (i := 5) (N := some 81) (bl 11 63) rfl rfl (one_of HT_.out (by kernel_rfl)) (by decide) (fun K hK => ?_)
      refine goes_ Try.func20 (by kernel_rfl) rfl #[.slice Ao64 t490.length co64, .int .u64 a2, .agg #[.int .i64 ((rd_T42 l1 0).f0), .slice A493_1 ((rd_T42 l1 0).f1).length c493_1]] (by rfl) rfl rfl (by (try simp only [List.map_toArray, List.map_cons, List.map_nil]); (rfl)) ?_
      with_reducible refine (notaryref47_Message.calls kj11 _ _ t490 a2 ((rd_T42 l1 0).f0) _ _ ((rd_T42 l1 0).f1) t494 t497 _ ?side1 ?side2 ?side3 ?side4 A44.out).mono ?_
      (case side1 => repeat ((exact (Kd.R_reads' HO492.out).2.2)))
      (case side2 => exact (Kd.R_reads' HO492.out).2.1)
      (case side3 => exact Kd.C_below HR493_1.out HB.out)
      (case side4 => exact HC493_1.out)
      rintro e w65 ⟨v495, rfl, ho0, hb⟩
      refine ⟨_, rfl, ?_⟩
      have n0_ := Aside0.mk (Kd.R_elder' (by exact HO_7.out) (Kd.R_base ho0) hb)
      have n1_ := Aside0.mk (Kd.R_elder' (by exact HO_8.out) (Kd.R_base ho0) hb)
      have n2_ := Aside0.mk (Kd.R_elder' (by exact HO484.out) (Kd.R_base ho0) hb)
      have n3_ := Aside0.mk (Kd.R_elder' (by exact HO488.out) (Kd.R_base ho0) hb)
      have n4_ := Aside0.mk (Kd.R_elder' (by exact HO492.out) (Kd.R_base ho0) hb)
      have n5_ := Aside0.mk (Kd.R_lower (Kd.R_new' (Kd.R_new' (Kd.R_new' (Kd.R_new' (Kd.R_new' ho0 (Kd.R_lt (by exact HO_7.out))) (Kd.R_lt (by exact HO_8.out))) (Kd.R_lt (by exact HO484.out))) (Kd.R_lt (by exact HO488.out))) (Kd.R_lt (by exact HO492.out))) (below_size HB.out))
      have n6_ := Aside0.mk (below_step HB.out hb)
      clear HO_7
      clear HO_8
      clear HO484
      clear HO488
      clear HO492
      clear HB
      have HO_7 := n0_
      have HO_8 := n1_
      have HO484 := n2_
      have HO488 := n3_
      have HO492 := n4_
      have HO496 := n5_
      have HB := n6_
      clear n0_ n1_ n2_ n3_ n4_ n5_ n6_
      (try clear hb)
      (skip)
      (skip)
      (skip)
      (try clear ho0)
      refine hK.out _ _ ⟨(pw_cell_below HB.out hw493_0), (pw_cell_below HB.out hw493_1)⟩ (fun hHeld => ?_)
      clear hK K
      refine norm_ (a' := ?_) ?_ ?_
      rotate_left
      · show Act.put _ (some 81) _ = _
        simp only [Act.put, sa_, sz_, ss_, i64_w, i32_w]
        rfl
      refine pure_ (i := 6) (N := some 75) (v := ?_) (a' := ?_) (bl 11 127) rfl rfl (any_of HT_.out (by kernel_rfl)) (fun _ _ _ h => h) (Or.inl ⟨by rfl, ?_⟩) ?_ ?_
      rotate_left
      · intro w'; go_simp; with_reducible rfl
      rotate_left
      · simp only [Act.put, sa_, sz_, ss_, i64_w, i32_w]; rfl
      refine pure_ (i := 7) (N := some 82) (v := ?_) (a' := ?_) (bl 11 255) rfl rfl (any_of HT_.out (by kernel_rfl)) (fun _ _ _ h => h) (Or.inl ⟨by rfl, ?_⟩) ?_ ?_
      rotate_left
      · intro w'; go_simp; with_reducible rfl
      rotate_left
      · simp only [Act.put, sa_, sz_, ss_, i64_w, i32_w]; rfl
      refine pure_ (i := 8) (N := some 83) (v := ?_) (a' := ?_) (bl 11 511) rfl rfl (any_of HT_.out (by kernel_rfl)) (fun _ _ _ h => h) (Or.inl ⟨by rfl, ?_⟩) ?_ ?_
      rotate_left
      · intro w'; go_simp; with_reducible rfl
      rotate_left
      · simp only [Act.put, sa_, sz_, ss_, i64_w, i32_w]; rfl
      refine pure_ (i := 9) (N := some 15) (v := ?_) (a' := ?_) (bl 11 1023) rfl rfl (any_of HT_.out (by kernel_rfl)) (fun _ _ _ h => h) (Or.inl ⟨by rfl, ?_⟩) ?_ ?_
      rotate_left
      · intro w'; go_simp; with_reducible rfl
      rotate_left
      · simp only [Act.put, sa_, sz_, ss_, i64_w, i32_w]; rfl
      refine pure_ (i := 10) (N := some 16) (v := ?_) (a' := ?_) (bl 11 2047) rfl rfl (any_of HT_.out (by kernel_rfl)) (fun _ _ _ h => h) (Or.inl ⟨by rfl, ?_⟩) ?_ ?_
      rotate_left
      · intro w'; go_simp; with_reducible rfl
      rotate_left
      · simp only [Act.put, sa_, sz_, ss_, i64_w, i32_w]; rfl
      refine done_ (done_of HT_.out (by kernel_rfl)) ?_
      obtain ⟨Ao66, co66, eo66⟩ := Kd.R_slice HO488.out
      subst eo66
      obtain ⟨Ao67, co67, eo67⟩ := Kd.R_slice HO496.out
      subst eo67
      try go_wp2_with (((go_at_call 11; (with_reducible refine (notaryref01_Same.calls kj11 _ _ t486 _ _ t494 false _ ?side1 ?side2 ?side3 ?side4 A46.out).mono ?_); (case side1 => repeat ((exact (Kd.R_reads' HO488.out).2.2))); (case side2 => exact (Kd.R_reads' HO488.out).2.1); (case side3 => repeat ((exact (Kd.R_reads' HO496.out).2.2))); (case side4 => exact (Kd.R_reads' HO496.out).2.1); rintro e w' ⟨rfl, ⟨nd, rfl⟩⟩)))
      go_ret
      exact ⟨by (rfl), by repeat (with_reducible first | exact HB.out | apply pw_below_drewN)⟩
    subst c47
    have H1 : (notarylaw47_ChainBuilds.j2 kj11 l0 l1 t459 t460 t461) = some r := by rw [if_pos rfl] at H; exact H
    clear H
    have H := H1
    clear H1
    have H' := Aside0.mk H
    clear H
    try go_wp2
    have n0_ := Aside0.mk (Kd.R_drew HO_7.out)
    have n1_ := Aside0.mk (Kd.R_drew HO_8.out)
    have n2_ := Aside0.mk (below_drew1 HB.out)
    clear HO_7
    clear HO_8
    clear HB
    have HO_7 := n0_
    have HO_8 := n1_
    have HB := n2_
    clear n0_ n1_ n2_
    have p485 : 0 ≤ (0 : Int) := (by omega)
    have q485 : 0 < (l1.length : Int) := of_decide_eq_true (by (with_reducible assumption))
    obtain ⟨ad485, A485_1, c485_1, e485, hx485_0, hx485_1, hl485_1, hi485_1⟩ := at_T42 HR1.out 0 p485 q485
    have hw485_1 := hx485_1
    (try rw [show (0 : Int).toNat = 0 from rfl] at hw485_1)
    (try rw [show 0 * 2 = 0 from rfl] at hw485_1)
    (try rw [Addr.add_zero'] at hw485_1)
    have hw485_0 := hx485_0
    (try rw [show (0 : Int).toNat = 0 from rfl] at hw485_0)
    (try rw [show 0 * 2 = 0 from rfl] at hw485_0)
    (try rw [Addr.add_zero'] at hw485_0)
    cases e485
    have qi485 : (0 < l1.length) = True := eq_true (by omega)
    (try rw [show (0 : Int).toNat = 0 from rfl] at hx485_0)
    (try rw [show 0 * 2 = 0 from rfl] at hx485_0)
    (try rw [Addr.add_zero'] at hx485_0)
    (try rw [show (0 : Int).toNat = 0 from rfl] at hx485_1)
    (try rw [show 0 * 2 = 0 from rfl] at hx485_1)
    (try rw [Addr.add_zero'] at hx485_1)
    replace hx485_0 := pw_cell_below HB.out hx485_0
    replace hx485_1 := pw_cell_below HB.out hx485_1
    have HR485_1 := Aside0.mk hi485_1
    have HC485_1 := Aside0.mk hl485_1
    clear hi485_1 hl485_1
    replace p485 := eq_true p485
    replace q485 := eq_true q485
    refine start_ (n := 11) (S := fun w' => w'.cell? ad485 = some (.int .i64 ((rd_T42 l1 0).f0)) ∧ w'.cell? ⟨ad485.block, ad485.off + 1, none⟩ = some (.slice A485_1 ((rd_T42 l1 0).f1).length c485_1)) (ds := []) (bl 11 0) (by kernel_rfl) rfl rfl ⟨(pw_cell_below HB.out hw485_0), (pw_cell_below HB.out hw485_1)⟩ (fun hHeld => ?_); refine with_tabW notarylaw47_ChainBuilds.tab8 notarylaw47_ChainBuilds.bits8 (fun HT_ HW_ => ?_)
    generalize wc.drew = w48 at HO_7 HO_8 HB HR485_1 hx485_0 hx485_1 hHeld ⊢
    refine pure_ (i := 1) (N := some 68) (v := ?_) (a' := ?_) (bl 11 2) rfl rfl (any_of HT_.out (by kernel_rfl)) (fun _ _ _ h => h) (Or.inl ⟨by rfl, ?_⟩) ?_ ?_
    rotate_left
    · intro w'; go_simp; with_reducible rfl
    rotate_left
    · simp only [Act.put, sa_, sz_, ss_, i64_w, i32_w]; rfl
    refine pure_ (i := 2) (N := some 69) (v := ?_) (a' := ?_) (bl 11 6) rfl rfl (any_of HT_.out (by kernel_rfl)) (fun _ _ _ h => h) (Or.inl ⟨by rfl, ?_⟩) ?_ ?_
    rotate_left
    · intro w'; go_simp; with_reducible rfl
    rotate_left
    · simp only [Act.put, sa_, sz_, ss_, i64_w, i32_w]; rfl
    refine pure_ (i := 3) (N := some 70) (v := ?_) (a' := ?_) (bl 11 14) rfl rfl (any_of HT_.out (by kernel_rfl)) (fun _ _ _ h => h) (Or.inl ⟨by rfl, ?_⟩) ?_ ?_
    rotate_left
    · intro w'; go_simp; with_reducible rfl
    rotate_left
    · simp only [Act.put, sa_, sz_, ss_, i64_w, i32_w]; rfl
    refine take_ (i := 4) (N := some 71) (v := ?_) (a' := ?_) (bl 11 30) rfl rfl (take_ofW HT_.out HW_.out (by kernel_rfl)) (fun _ _ _ h => h) (Or.inl ⟨by rfl, ?_⟩) hHeld ?_ ?_
    rotate_left
    · rintro w' ⟨s0, s1⟩
      go_simp
      with_reducible rfl
    rotate_left
    · simp only [Act.put, sa_, sz_, ss_, i64_w, i32_w]; rfl
    refine one_ (i := 0) (N := some 67) (bl 11 31) rfl rfl (one_of HT_.out (by kernel_rfl)) (by decide) (fun K hK => ?_)
    refine goes_ Try.func19 (by kernel_rfl) rfl #[] (by rfl) rfl rfl (by (try simp only [List.map_toArray, List.map_cons, List.map_nil]); (done)) ?_
    with_reducible refine (notaryref47_First.calls  t482 _ A40.out).mono ?_
    rintro e w49 ⟨v483, rfl, ho0, hb⟩
    refine ⟨_, rfl, ?_⟩
    have n0_ := Aside0.mk (Kd.R_elder' (by exact HO_7.out) (Kd.R_base ho0) hb)
    have n1_ := Aside0.mk (Kd.R_elder' (by exact HO_8.out) (Kd.R_base ho0) hb)
    have n2_ := Aside0.mk (Kd.R_lower (Kd.R_new' (Kd.R_new' ho0 (Kd.R_lt (by exact HO_7.out))) (Kd.R_lt (by exact HO_8.out))) (below_size HB.out))
    have n3_ := Aside0.mk (below_step HB.out hb)
    clear HO_7
    clear HO_8
    clear HB
    have HO_7 := n0_
    have HO_8 := n1_
    have HO484 := n2_
    have HB := n3_
    clear n0_ n1_ n2_ n3_
    (try clear hb)
    (skip)
    (skip)
    (skip)
    (try clear ho0)
    obtain ⟨Ao50, co50, eo50⟩ := Kd.R_slice HO484.out
    (subst eo50)
    refine hK.out _ _ ⟨(pw_cell_below HB.out hw485_0), (pw_cell_below HB.out hw485_1)⟩ (fun hHeld => ?_)
    clear hK K
    refine norm_ (a' := ?_) ?_ ?_
    rotate_left
    · show Act.put _ (some 67) _ = _
      simp only [Act.put, sa_, sz_, ss_, i64_w, i32_w]
      rfl
    refine one_ (i := 5) (N := some 72) (bl 11 63) rfl rfl (one_of HT_.out (by kernel_rfl)) (by decide) (fun K hK => ?_)
    refine goes_ Try.func24 (by kernel_rfl) rfl #[.slice Ao50 t482.length co50, .int .u64 a2, .agg #[.int .i64 ((rd_T42 l1 0).f0), .slice A485_1 ((rd_T42 l1 0).f1).length c485_1]] (by rfl) rfl rfl (by (try simp only [List.map_toArray, List.map_cons, List.map_nil]); (rfl)) ?_
    with_reducible refine (chain_Message.calls kj11 _ _ t482 a2 ((rd_T42 l1 0).f0) _ _ ((rd_T42 l1 0).f1) t486 t489 _ ?side1 ?side2 ?side3 ?side4 A42.out).mono ?_
    (case side1 => repeat ((exact (Kd.R_reads' HO484.out).2.2)))
    (case side2 => exact (Kd.R_reads' HO484.out).2.1)
    (case side3 => exact Kd.C_below HR485_1.out HB.out)
    (case side4 => exact HC485_1.out)
    rintro e w51 ⟨v487, rfl, ho0, hb⟩
    refine ⟨_, rfl, ?_⟩
    have n0_ := Aside0.mk (Kd.R_elder' (by exact HO_7.out) (Kd.R_base ho0) hb)
    have n1_ := Aside0.mk (Kd.R_elder' (by exact HO_8.out) (Kd.R_base ho0) hb)
    have n2_ := Aside0.mk (Kd.R_elder' (by exact HO484.out) (Kd.R_base ho0) hb)
    have n3_ := Aside0.mk (Kd.R_lower (Kd.R_new' (Kd.R_new' (Kd.R_new' ho0 (Kd.R_lt (by exact HO_7.out))) (Kd.R_lt (by exact HO_8.out))) (Kd.R_lt (by exact HO484.out))) (below_size HB.out))
    have n4_ := Aside0.mk (below_step HB.out hb)
    clear HO_7
    clear HO_8
    clear HO484
    clear HB
    have HO_7 := n0_
    have HO_8 := n1_
    have HO484 := n2_
    have HO488 := n3_
    have HB := n4_
    clear n0_ n1_ n2_ n3_ n4_
    (try clear hb)
    (skip)
    (skip)
    (skip)
    (try clear ho0)
    refine hK.out _ _ ⟨(pw_cell_below HB.out hw485_0), (pw_cell_below HB.out hw485_1)⟩ (fun hHeld => ?_)
    clear hK K
    refine norm_ (a' := ?_) ?_ ?_
    rotate_left
    · show Act.put _ (some 72) _ = _
      simp only [Act.put, sa_, sz_, ss_, i64_w, i32_w]
      rfl
    refine pure_ (i := 6) (N := some 66) (v := ?_) (a' := ?_) (bl 11 127) rfl rfl (any_of HT_.out (by kernel_rfl)) (fun _ _ _ h => h) (Or.inl ⟨by rfl, ?_⟩) ?_ ?_
    rotate_left
    · intro w'; go_simp; with_reducible rfl
    rotate_left
    · simp only [Act.put, sa_, sz_, ss_, i64_w, i32_w]; rfl
    refine pure_ (i := 7) (N := some 73) (v := ?_) (a' := ?_) (bl 11 255) rfl rfl (any_of HT_.out (by kernel_rfl)) (fun _ _ _ h => h) (Or.inl ⟨by rfl, ?_⟩) ?_ ?_
    rotate_left
    · intro w'; go_simp; with_reducible rfl
    rotate_left
    · simp only [Act.put, sa_, sz_, ss_, i64_w, i32_w]; rfl
    refine pure_ (i := 8) (N := some 74) (v := ?_) (a' := ?_) (bl 11 511) rfl rfl (any_of HT_.out (by kernel_rfl)) (fun _ _ _ h => h) (Or.inl ⟨by rfl, ?_⟩) ?_ ?_
    rotate_left
    · intro w'; go_simp; with_reducible rfl
    rotate_left
    · simp only [Act.put, sa_, sz_, ss_, i64_w, i32_w]; rfl
    refine pure_ (i := 9) (N := some 13) (v := ?_) (a' := ?_) (bl 11 1023) rfl rfl (any_of HT_.out (by kernel_rfl)) (fun _ _ _ h => h) (Or.inl ⟨by rfl, ?_⟩) ?_ ?_
    rotate_left
    · intro w'; go_simp; with_reducible rfl
    rotate_left
    · simp only [Act.put, sa_, sz_, ss_, i64_w, i32_w]; rfl
    refine pure_ (i := 10) (N := some 14) (v := ?_) (a' := ?_) (bl 11 2047) rfl rfl (any_of HT_.out (by kernel_rfl)) (fun _ _ _ h => h) (Or.inl ⟨by rfl, ?_⟩) ?_ ?_
    rotate_left
    · intro w'; go_simp; with_reducible rfl
    rotate_left
    · simp only [Act.put, sa_, sz_, ss_, i64_w, i32_w]; rfl
    refine done_ (done_of HT_.out (by kernel_rfl)) ?_
    try go_wp2
    have n0_ := Aside0.mk (Kd.R_drew HO_7.out)
    have n1_ := Aside0.mk (Kd.R_drew HO_8.out)
    have n2_ := Aside0.mk (Kd.R_drew HO484.out)
    have n3_ := Aside0.mk (Kd.R_drew HO488.out)
    have n4_ := Aside0.mk (below_drew1 HB.out)
    clear HO_7
    clear HO_8
    clear HO484
    clear HO488
    clear HB
    have HO_7 := n0_
    have HO_8 := n1_
    have HO484 := n2_
    have HO488 := n3_
    have HB := n4_
    clear n0_ n1_ n2_ n3_ n4_
    have p493 : 0 ≤ (0 : Int) := (by omega)
    have q493 : 0 < (l1.length : Int) := of_decide_eq_true (by (with_reducible assumption))
    obtain ⟨ad493, A493_1, c493_1, e493, hx493_0, hx493_1, hl493_1, hi493_1⟩ := at_T42 HR1.out 0 p493 q493
    have hw493_1 := hx493_1
    (try rw [show (0 : Int).toNat = 0 from rfl] at hw493_1)
    (try rw [show 0 * 2 = 0 from rfl] at hw493_1)
    (try rw [Addr.add_zero'] at hw493_1)
    have hw493_0 := hx493_0
    (try rw [show (0 : Int).toNat = 0 from rfl] at hw493_0)
    (try rw [show 0 * 2 = 0 from rfl] at hw493_0)
    (try rw [Addr.add_zero'] at hw493_0)
    obtain rfl : ad485 = ad493 := (by injection e493)
    have qi493 : (0 < l1.length) = True := eq_true (by omega)
    (try rw [show (0 : Int).toNat = 0 from rfl] at hx493_0)
    (try rw [show 0 * 2 = 0 from rfl] at hx493_0)
    (try rw [Addr.add_zero'] at hx493_0)
    (try rw [show (0 : Int).toNat = 0 from rfl] at hx493_1)
    (try rw [show 0 * 2 = 0 from rfl] at hx493_1)
    (try rw [Addr.add_zero'] at hx493_1)
    replace hx493_0 := pw_cell_below HB.out hx493_0
    replace hx493_1 := pw_cell_below HB.out hx493_1
    have HR493_1 := Aside0.mk hi493_1
    have HC493_1 := Aside0.mk hl493_1
    clear hi493_1 hl493_1
    replace p493 := eq_true p493
    replace q493 := eq_true q493
    refine start_ (n := 11) (S := fun w' => w'.cell? ad485 = some (.int .i64 ((rd_T42 l1 0).f0)) ∧ w'.cell? ⟨ad485.block, ad485.off + 1, none⟩ = some (.slice A493_1 ((rd_T42 l1 0).f1).length c493_1)) (ds := []) (bl 11 0) (by kernel_rfl) rfl rfl ⟨(pw_cell_below HB.out hw493_0), (pw_cell_below HB.out hw493_1)⟩ (fun hHeld => ?_); refine with_tabW notarylaw47_ChainBuilds.tab9 notarylaw47_ChainBuilds.bits9 (fun HT_ HW_ => ?_)
    generalize w51.drew = w52 at HO_7 HO_8 HO484 HO488 HB HR493_1 hx493_0 hx493_1 hHeld ⊢
    refine pure_ (i := 1) (N := some 77) (v := ?_) (a' := ?_) (bl 11 2) rfl rfl (any_of HT_.out (by kernel_rfl)) (fun _ _ _ h => h) (Or.inl ⟨by rfl, ?_⟩) ?_ ?_
    rotate_left
    · intro w'; go_simp; with_reducible rfl
    rotate_left
    · simp only [Act.put, sa_, sz_, ss_, i64_w, i32_w]; rfl
    refine pure_ (i := 2) (N := some 78) (v := ?_) (a' := ?_) (bl 11 6) rfl rfl (any_of HT_.out (by kernel_rfl)) (fun _ _ _ h => h) (Or.inl ⟨by rfl, ?_⟩) ?_ ?_
    rotate_left
    · intro w'; go_simp; with_reducible rfl
    rotate_left
    · simp only [Act.put, sa_, sz_, ss_, i64_w, i32_w]; rfl
    refine pure_ (i := 3) (N := some 79) (v := ?_) (a' := ?_) (bl 11 14) rfl rfl (any_of HT_.out (by kernel_rfl)) (fun _ _ _ h => h) (Or.inl ⟨by rfl, ?_⟩) ?_ ?_
    rotate_left
    · intro w'; go_simp; with_reducible rfl
    rotate_left
    · simp only [Act.put, sa_, sz_, ss_, i64_w, i32_w]; rfl
    refine take_ (i := 4) (N := some 80) (v := ?_) (a' := ?_) (bl 11 30) rfl rfl (take_ofW HT_.out HW_.out (by kernel_rfl)) (fun _ _ _ h => h) (Or.inl ⟨by rfl, ?_⟩) hHeld ?_ ?_
    rotate_left
    · rintro w' ⟨s0, s1⟩
      go_simp
      with_reducible rfl
    rotate_left
    · simp only [Act.put, sa_, sz_, ss_, i64_w, i32_w]; rfl
    refine one_ (i := 0) (N := some 76) (bl 11 31) rfl rfl (one_of HT_.out (by kernel_rfl)) (by decide) (fun K hK => ?_)
    refine goes_ Try.func19 (by kernel_rfl) rfl #[] (by rfl) rfl rfl (by (try simp only [List.map_toArray, List.map_cons, List.map_nil]); (done)) ?_
    with_reducible refine (notaryref47_First.calls  t490 _ A43.out).mono ?_
    rintro e w53 ⟨v491, rfl, ho0, hb⟩
    refine ⟨_, rfl, ?_⟩
    have n0_ := Aside0.mk (Kd.R_elder' (by exact HO_7.out) (Kd.R_base ho0) hb)
    have n1_ := Aside0.mk (Kd.R_elder' (by exact HO_8.out) (Kd.R_base ho0) hb)
    have n2_ := Aside0.mk (Kd.R_elder' (by exact HO484.out) (Kd.R_base ho0) hb)
    have n3_ := Aside0.mk (Kd.R_elder' (by exact HO488.out) (Kd.R_base ho0) hb)
    have n4_ := Aside0.mk (Kd.R_lower (Kd.R_new' (Kd.R_new' (Kd.R_new' (Kd.R_new' ho0 (Kd.R_lt (by exact HO_7.out))) (Kd.R_lt (by exact HO_8.out))) (Kd.R_lt (by exact HO484.out))) (Kd.R_lt (by exact HO488.out))) (below_size HB.out))
    have n5_ := Aside0.mk (below_step HB.out hb)
    clear HO_7
    clear HO_8
    clear HO484
    clear HO488
    clear HB
    have HO_7 := n0_
    have HO_8 := n1_
    have HO484 := n2_
    have HO488 := n3_
    have HO492 := n4_
    have HB := n5_
    clear n0_ n1_ n2_ n3_ n4_ n5_
    (try clear hb)
    (skip)
    (skip)
    (skip)
    (try clear ho0)
    obtain ⟨Ao54, co54, eo54⟩ := Kd.R_slice HO492.out
    (subst eo54)
    refine hK.out _ _ ⟨(pw_cell_below HB.out hw493_0), (pw_cell_below HB.out hw493_1)⟩ (fun hHeld => ?_)
    clear hK K
    refine norm_ (a' := ?_) ?_ ?_
    rotate_left
    · show Act.put _ (some 76) _ = _
      simp only [Act.put, sa_, sz_, ss_, i64_w, i32_w]
      rfl
    refine one_ (i := 5) (N := some 81) (bl 11 63) rfl rfl (one_of HT_.out (by kernel_rfl)) (by decide) (fun K hK => ?_)
    refine goes_ Try.func20 (by kernel_rfl) rfl #[.slice Ao54 t490.length co54, .int .u64 a2, .agg #[.int .i64 ((rd_T42 l1 0).f0), .slice A493_1 ((rd_T42 l1 0).f1).length c493_1]] (by rfl) rfl rfl (by (try simp only [List.map_toArray, List.map_cons, List.map_nil]); (rfl)) ?_
    with_reducible refine (notaryref47_Message.calls kj11 _ _ t490 a2 ((rd_T42 l1 0).f0) _ _ ((rd_T42 l1 0).f1) t494 t497 _ ?side1 ?side2 ?side3 ?side4 A44.out).mono ?_
    (case side1 => repeat ((exact (Kd.R_reads' HO492.out).2.2)))
    (case side2 => exact (Kd.R_reads' HO492.out).2.1)
    (case side3 => exact Kd.C_below HR493_1.out HB.out)
    (case side4 => exact HC493_1.out)
    rintro e w55 ⟨v495, rfl, ho0, hb⟩
    refine ⟨_, rfl, ?_⟩
    have n0_ := Aside0.mk (Kd.R_elder' (by exact HO_7.out) (Kd.R_base ho0) hb)
    have n1_ := Aside0.mk (Kd.R_elder' (by exact HO_8.out) (Kd.R_base ho0) hb)
    have n2_ := Aside0.mk (Kd.R_elder' (by exact HO484.out) (Kd.R_base ho0) hb)
    have n3_ := Aside0.mk (Kd.R_elder' (by exact HO488.out) (Kd.R_base ho0) hb)
    have n4_ := Aside0.mk (Kd.R_elder' (by exact HO492.out) (Kd.R_base ho0) hb)
    have n5_ := Aside0.mk (Kd.R_lower (Kd.R_new' (Kd.R_new' (Kd.R_new' (Kd.R_new' (Kd.R_new' ho0 (Kd.R_lt (by exact HO_7.out))) (Kd.R_lt (by exact HO_8.out))) (Kd.R_lt (by exact HO484.out))) (Kd.R_lt (by exact HO488.out))) (Kd.R_lt (by exact HO492.out))) (below_size HB.out))
    have n6_ := Aside0.mk (below_step HB.out hb)
    clear HO_7
    clear HO_8
    clear HO484
    clear HO488
    clear HO492
    clear HB
    have HO_7 := n0_
    have HO_8 := n1_
    have HO484 := n2_
    have HO488 := n3_
    have HO492 := n4_
    have HO496 := n5_
    have HB := n6_
    clear n0_ n1_ n2_ n3_ n4_ n5_ n6_
    (try clear hb)
    (skip)
    (skip)
    (skip)
    (try clear ho0)
    refine hK.out _ _ ⟨(pw_cell_below HB.out hw493_0), (pw_cell_below HB.out hw493_1)⟩ (fun hHeld => ?_)
    clear hK K
    refine norm_ (a' := ?_) ?_ ?_
    rotate_left
    · show Act.put _ (some 81) _ = _
      simp only [Act.put, sa_, sz_, ss_, i64_w, i32_w]
      rfl
    refine pure_ (i := 6) (N := some 75) (v := ?_) (a' := ?_) (bl 11 127) rfl rfl (any_of HT_.out (by kernel_rfl)) (fun _ _ _ h => h) (Or.inl ⟨by rfl, ?_⟩) ?_ ?_
    rotate_left
    · intro w'; go_simp; with_reducible rfl
    rotate_left
    · simp only [Act.put, sa_, sz_, ss_, i64_w, i32_w]; rfl
    refine pure_ (i := 7) (N := some 82) (v := ?_) (a' := ?_) (bl 11 255) rfl rfl (any_of HT_.out (by kernel_rfl)) (fun _ _ _ h => h) (Or.inl ⟨by rfl, ?_⟩) ?_ ?_
    rotate_left
    · intro w'; go_simp; with_reducible rfl
    rotate_left
    · simp only [Act.put, sa_, sz_, ss_, i64_w, i32_w]; rfl
    refine pure_ (i := 8) (N := some 83) (v := ?_) (a' := ?_) (bl 11 511) rfl rfl (any_of HT_.out (by kernel_rfl)) (fun _ _ _ h => h) (Or.inl ⟨by rfl, ?_⟩) ?_ ?_
    rotate_left
    · intro w'; go_simp; with_reducible rfl
    rotate_left
    · simp only [Act.put, sa_, sz_, ss_, i64_w, i32_w]; rfl
    refine pure_ (i := 9) (N := some 15) (v := ?_) (a' := ?_) (bl 11 1023) rfl rfl (any_of HT_.out (by kernel_rfl)) (fun _ _ _ h => h) (Or.inl ⟨by rfl, ?_⟩) ?_ ?_
    rotate_left
    · intro w'; go_simp; with_reducible rfl
    rotate_left
    · simp only [Act.put, sa_, sz_, ss_, i64_w, i32_w]; rfl
    refine pure_ (i := 10) (N := some 16) (v := ?_) (a' := ?_) (bl 11 2047) rfl rfl (any_of HT_.out (by kernel_rfl)) (fun _ _ _ h => h) (Or.inl ⟨by rfl, ?_⟩) ?_ ?_
    rotate_left
    · intro w'; go_simp; with_reducible rfl
    rotate_left
    · simp only [Act.put, sa_, sz_, ss_, i64_w, i32_w]; rfl
    refine done_ (done_of HT_.out (by kernel_rfl)) ?_
    obtain ⟨Ao56, co56, eo56⟩ := Kd.R_slice HO488.out
    subst eo56
    obtain ⟨Ao57, co57, eo57⟩ := Kd.R_slice HO496.out
    subst eo57
    try go_wp2_with (((go_at_call 11; (with_reducible refine (notaryref01_Same.calls kj11 _ _ t486 _ _ t494 true _ ?side1 ?side2 ?side3 ?side4 A46.out).mono ?_); (case side1 => repeat ((exact (Kd.R_reads' HO488.out).2.2))); (case side2 => exact (Kd.R_reads' HO488.out).2.1); (case side3 => repeat ((exact (Kd.R_reads' HO496.out).2.2))); (case side4 => exact (Kd.R_reads' HO496.out).2.1); rintro e w' ⟨rfl, ⟨nd, rfl⟩⟩)))
    go_meet
    case rel => exact ⟨_, H', ⟨by have := HJ3.out; have := HJ11.out; (omega)⟩, ⟨by (with_reducible repeat (apply Kd.R_drewN)); exact Kd.R_mono HO_7.out (fun _ hk => hk.1.1.1.1)⟩, ⟨by (with_reducible repeat (apply Kd.R_drewN)); exact Kd.R_mono HO_8.out (fun _ hk => hk.1.1.1.1)⟩, ⟨by repeat (with_reducible first | exact HB.out | apply pw_below_drewN)⟩⟩
  clear HC38
  obtain ⟨kq, HA, HJ37, HO_7, HO_8, HB⟩ := hcut
  rcases kq with _ | kj37
  · exact absurd HA.out (by simp [notarylaw47_ChainBuilds.j2])
  have H := HA.out
  clear HA
  simp only [notarylaw47_ChainBuilds.j2] at H
  by_cases c76 : t461 = 0
  rotate_left
  · rw [if_neg c76] at H
    have c76b0 : (t461 == 0) = false := beq_eq_false_iff_ne.mpr c76
    have c76b1 : (t461 != 0) = true := bne_iff_ne.mpr c76
    replace H := Option.bind_eq_some_iff.mp H
    obtain ⟨t499, A1130, H⟩ := H
    replace H : (some t499) = some r := H
    have A113 := Aside0.mk A1130
    clear A1130
    obtain rfl := Option.some.inj H
    go_wp2_with ((((with_reducible refine gate_callee (f := 7) rfl ?_); refine goesL_ (some 95) rfl rfl Try.func7 (by kernel_rfl) rfl #[] rfl (by (try simp only [List.map_toArray, List.map_cons, List.map_nil]); (done)) ?_; (with_reducible refine (notarylaw47_awake.calls kj37  t499 _ A113.out).mono ?_); rintro e w114 ⟨rfl, hb⟩; refine ⟨_, rfl, ?_⟩; have n0_ := Aside0.mk (Kd.R_below (by exact HO_7.out) hb); have n1_ := Aside0.mk (Kd.R_below (by exact HO_8.out) hb); have n2_ := Aside0.mk (below_step HB.out hb); clear HO_7; clear HO_8; clear HB; have HO_7 := n0_; have HO_8 := n1_; have HB := n2_; clear n0_ n1_ n2_; (try clear hb); (skip))))
    go_ret
    exact ⟨by (rfl), HB.out⟩

  rw [if_pos c76] at H
  have c76b0 : (t461 == 0) = true := beq_iff_eq.mpr c76
  have c76b1 : (t461 != 0) = false := bne_eq_false_iff_eq.mpr c76
  clear c76
  replace H := Option.bind_eq_some_iff.mp H
  obtain ⟨⟨t500, t503, t506⟩, A770, H⟩ := H
  replace H : (if t506 = 0 then ((notaryref46_Alike.f kj37 t500 l1).bind fun t507 => (if t507 = true then ((notaryref01_Same.f kj37 t503 t460).bind fun t508 => (if t508 = true then ((chain_Verify.f kj37 l0 t459 (l1.length : Int) t460).bind fun t509 => (if t509 = true then ((notarylaw47_awake.f kj37).bind fun t510 => (some t510)) else (some false))) else (some false))) else (some false))) else (some false)) = some r := H
  have A77 := Aside0.mk A770
  clear A770
  by_cases c78 : t506 = 0
  rotate_left
  · rw [if_neg c78] at H
    have c78b0 : (t506 == 0) = false := beq_eq_false_iff_ne.mpr c78
    have c78b1 : (t506 != 0) = true := bne_iff_ne.mpr c78
    obtain rfl := Option.some.inj H
    obtain ⟨Ao111, co111, eo111⟩ := Kd.R_slice HO_7.out
    subst eo111
    go_wp2_with ((((with_reducible refine gate_callee (f := 8) rfl ?_); refine goesL_ (some 99) rfl rfl Try.func8 (by kernel_rfl) rfl #[.slice A0 l0.length c0, .slice Ao111 t459.length co111] rfl (by (try simp only [List.map_toArray, List.map_cons, List.map_nil]); (rfl)) ?_; (with_reducible refine (chain_Entries.calls kj37 _ _ l0 _ _ t459 t500 t503 t506 _ ?side1 ?side2 ?side3 ?side4 A77.out).mono ?_); (case side1 => exact Kd.C_below HR0.out HB.out); (case side2 => exact HC0.out); (case side3 => repeat ((exact (Kd.R_reads' HO_7.out).2.2))); (case side4 => exact (Kd.R_reads' HO_7.out).2.1); rintro e w112 ⟨v501, v504, rfl, ho0, ho1, hb⟩; refine ⟨_, rfl, ?_⟩; have n0_ := Aside0.mk (Kd.R_below (by exact HO_7.out) hb); have n1_ := Aside0.mk (Kd.R_below (by exact HO_8.out) hb); have n2_ := Aside0.mk (Kd.V_lower (Kd.V_mono (ok' := fun k_ => some k_ ≠ (.slice Ao111 t459.length co111 : Value).ownBlock ∧ some k_ ≠ (v464 : Value).ownBlock) ho0 (fun k_ hk_ => ⟨(Kd.fresh' (Kd.R_lt (by exact HO_7.out)) k_ hk_), (Kd.fresh' (Kd.R_lt (by exact HO_8.out)) k_ hk_)⟩)) (below_size HB.out)); have n3_ := Aside0.mk (Kd.V_lower (Kd.V_mono (ok' := fun k_ => some k_ ≠ (.slice Ao111 t459.length co111 : Value).ownBlock ∧ some k_ ≠ (v464 : Value).ownBlock) ho1 (fun k_ hk_ => ⟨(Kd.fresh' (Kd.R_lt (by exact HO_7.out)) k_ hk_), (Kd.fresh' (Kd.R_lt (by exact HO_8.out)) k_ hk_)⟩)) (below_size HB.out)); have n4_ := Aside0.mk (below_step HB.out hb); clear HO_7; clear HO_8; clear HB; have HO_7 := n0_; have HO_8 := n1_; have HO502 := n2_; have HO505 := n3_; have HB := n4_; clear n0_ n1_ n2_ n3_ n4_; (try clear hb); (try clear ho0); (try clear ho1))))
    go_ret
    exact ⟨by (rfl), HB.out⟩
  rw [if_pos c78] at H
  have c78b0 : (t506 == 0) = true := beq_iff_eq.mpr c78
  have c78b1 : (t506 != 0) = false := bne_eq_false_iff_eq.mpr c78
  clear c78
  replace H := Option.bind_eq_some_iff.mp H
  obtain ⟨t507, A790, H⟩ := H
  replace H : (if t507 = true then ((notaryref01_Same.f kj37 t503 t460).bind fun t508 => (if t508 = true then ((chain_Verify.f kj37 l0 t459 (l1.length : Int) t460).bind fun t509 => (if t509 = true then ((notarylaw47_awake.f kj37).bind fun t510 => (some t510)) else (some false))) else (some false))) else (some false)) = some r := H
  have A79 := Aside0.mk A790
  clear A790
  by_cases c80 : t507 = true
  rotate_left
  · replace c80 := Bool.eq_false_iff.mpr c80
    subst c80
    have H1 : (some false) = some r := by rw [if_neg (show ¬ (false = true) by decide)] at H; exact H
    clear H
    have H := H1
    clear H1
    obtain rfl := Option.some.inj H
    obtain ⟨Ao107, co107, eo107⟩ := Kd.R_slice HO_7.out
    subst eo107
    go_wp2_with (first | ((with_reducible refine gate_callee (f := 8) rfl ?_); refine goesL_ (some 99) rfl rfl Try.func8 (by kernel_rfl) rfl #[.slice A0 l0.length c0, .slice Ao107 t459.length co107] rfl (by (try simp only [List.map_toArray, List.map_cons, List.map_nil]); (rfl)) ?_; (with_reducible refine (chain_Entries.calls kj37 _ _ l0 _ _ t459 t500 t503 t506 _ ?side1 ?side2 ?side3 ?side4 A77.out).mono ?_); (case side1 => exact Kd.C_below HR0.out HB.out); (case side2 => exact HC0.out); (case side3 => repeat ((exact (Kd.R_reads' HO_7.out).2.2))); (case side4 => exact (Kd.R_reads' HO_7.out).2.1); rintro e w108 ⟨v501, v504, rfl, ho0, ho1, hb⟩; refine ⟨_, rfl, ?_⟩; have n0_ := Aside0.mk (Kd.R_below (by exact HO_7.out) hb); have n1_ := Aside0.mk (Kd.R_below (by exact HO_8.out) hb); have n2_ := Aside0.mk (Kd.V_lower (Kd.V_mono (ok' := fun k_ => some k_ ≠ (.slice Ao107 t459.length co107 : Value).ownBlock ∧ some k_ ≠ (v464 : Value).ownBlock) ho0 (fun k_ hk_ => ⟨(Kd.fresh' (Kd.R_lt (by exact HO_7.out)) k_ hk_), (Kd.fresh' (Kd.R_lt (by exact HO_8.out)) k_ hk_)⟩)) (below_size HB.out)); have n3_ := Aside0.mk (Kd.V_lower (Kd.V_mono (ok' := fun k_ => some k_ ≠ (.slice Ao107 t459.length co107 : Value).ownBlock ∧ some k_ ≠ (v464 : Value).ownBlock) ho1 (fun k_ hk_ => ⟨(Kd.fresh' (Kd.R_lt (by exact HO_7.out)) k_ hk_), (Kd.fresh' (Kd.R_lt (by exact HO_8.out)) k_ hk_)⟩)) (below_size HB.out)); have n4_ := Aside0.mk (below_step HB.out hb); clear HO_7; clear HO_8; clear HB; have HO_7 := n0_; have HO_8 := n1_; have HO502 := n2_; have HO505 := n3_; have HB := n4_; clear n0_ n1_ n2_ n3_ n4_; (try clear hb); (try clear ho0); (try clear ho1); obtain ⟨Ao109, co109, eo109⟩ := Kd.V_slice HO502.out; subst eo109) | (go_at_call 10; (with_reducible refine (notaryref46_Alike.calls kj37 _ _ t500 _ _ l1 false _ ?side1 ?side2 ?side3 ?side4 A79.out).mono ?_); (case side1 => repeat ((exact (Kd.V_reads' HO502.out).2.2))); (case side2 => exact (Kd.V_reads' HO502.out).2.1); (case side3 => exact Kd.C_below HR1.out HB.out); (case side4 => exact HC1.out); rintro e w110 ⟨rfl, hb⟩; have n0_ := Aside0.mk (Kd.R_below (by exact HO_7.out) hb); have n1_ := Aside0.mk (Kd.R_below (by exact HO_8.out) hb); have n2_ := Aside0.mk (Kd.V_below (by exact HO502.out) hb); have n3_ := Aside0.mk (Kd.V_below (by exact HO505.out) hb); have n4_ := Aside0.mk (below_step HB.out hb); clear HO_7; clear HO_8; clear HO502; clear HO505; clear HB; have HO_7 := n0_; have HO_8 := n1_; have HO502 := n2_; have HO505 := n3_; have HB := n4_; clear n0_ n1_ n2_ n3_ n4_; (try clear hb); (skip)))
    go_ret
    exact ⟨by (rfl), HB.out⟩
  subst c80
  have H1 : ((notaryref01_Same.f kj37 t503 t460).bind fun t508 => (if t508 = true then ((chain_Verify.f kj37 l0 t459 (l1.length : Int) t460).bind fun t509 => (if t509 = true then ((notarylaw47_awake.f kj37).bind fun t510 => (some t510)) else (some false))) else (some false))) = some r := by rw [if_pos rfl] at H; exact H
  clear H
  have H := H1
  clear H1
  replace H := Option.bind_eq_some_iff.mp H
  obtain ⟨t508, A810, H⟩ := H
  replace H : (if t508 = true then ((chain_Verify.f kj37 l0 t459 (l1.length : Int) t460).bind fun t509 => (if t509 = true then ((notarylaw47_awake.f kj37).bind fun t510 => (some t510)) else (some false))) else (some false)) = some r := H
  have A81 := Aside0.mk A810
  clear A810
  by_cases c82 : t508 = true
  rotate_left
  · replace c82 := Bool.eq_false_iff.mpr c82
    subst c82
    have H1 : (some false) = some r := by rw [if_neg (show ¬ (false = true) by decide)] at H; exact H
    clear H
    have H := H1
    clear H1
    obtain rfl := Option.some.inj H
    obtain ⟨Ao101, co101, eo101⟩ := Kd.R_slice HO_7.out
    subst eo101
    go_wp2_with (first | ((with_reducible refine gate_callee (f := 8) rfl ?_); refine goesL_ (some 99) rfl rfl Try.func8 (by kernel_rfl) rfl #[.slice A0 l0.length c0, .slice Ao101 t459.length co101] rfl (by (try simp only [List.map_toArray, List.map_cons, List.map_nil]); (rfl)) ?_; (with_reducible refine (chain_Entries.calls kj37 _ _ l0 _ _ t459 t500 t503 t506 _ ?side1 ?side2 ?side3 ?side4 A77.out).mono ?_); (case side1 => exact Kd.C_below HR0.out HB.out); (case side2 => exact HC0.out); (case side3 => repeat ((exact (Kd.R_reads' HO_7.out).2.2))); (case side4 => exact (Kd.R_reads' HO_7.out).2.1); rintro e w102 ⟨v501, v504, rfl, ho0, ho1, hb⟩; refine ⟨_, rfl, ?_⟩; have n0_ := Aside0.mk (Kd.R_below (by exact HO_7.out) hb); have n1_ := Aside0.mk (Kd.R_below (by exact HO_8.out) hb); have n2_ := Aside0.mk (Kd.V_lower (Kd.V_mono (ok' := fun k_ => some k_ ≠ (.slice Ao101 t459.length co101 : Value).ownBlock ∧ some k_ ≠ (v464 : Value).ownBlock) ho0 (fun k_ hk_ => ⟨(Kd.fresh' (Kd.R_lt (by exact HO_7.out)) k_ hk_), (Kd.fresh' (Kd.R_lt (by exact HO_8.out)) k_ hk_)⟩)) (below_size HB.out)); have n3_ := Aside0.mk (Kd.V_lower (Kd.V_mono (ok' := fun k_ => some k_ ≠ (.slice Ao101 t459.length co101 : Value).ownBlock ∧ some k_ ≠ (v464 : Value).ownBlock) ho1 (fun k_ hk_ => ⟨(Kd.fresh' (Kd.R_lt (by exact HO_7.out)) k_ hk_), (Kd.fresh' (Kd.R_lt (by exact HO_8.out)) k_ hk_)⟩)) (below_size HB.out)); have n4_ := Aside0.mk (below_step HB.out hb); clear HO_7; clear HO_8; clear HB; have HO_7 := n0_; have HO_8 := n1_; have HO502 := n2_; have HO505 := n3_; have HB := n4_; clear n0_ n1_ n2_ n3_ n4_; (try clear hb); (try clear ho0); (try clear ho1); obtain ⟨Ao103, co103, eo103⟩ := Kd.V_slice HO502.out; subst eo103) | (go_at_call 10; (with_reducible refine (notaryref46_Alike.calls kj37 _ _ t500 _ _ l1 true _ ?side1 ?side2 ?side3 ?side4 A79.out).mono ?_); (case side1 => repeat ((exact (Kd.V_reads' HO502.out).2.2))); (case side2 => exact (Kd.V_reads' HO502.out).2.1); (case side3 => exact Kd.C_below HR1.out HB.out); (case side4 => exact HC1.out); rintro e w104 ⟨rfl, hb⟩; have n0_ := Aside0.mk (Kd.R_below (by exact HO_7.out) hb); have n1_ := Aside0.mk (Kd.R_below (by exact HO_8.out) hb); have n2_ := Aside0.mk (Kd.V_below (by exact HO502.out) hb); have n3_ := Aside0.mk (Kd.V_below (by exact HO505.out) hb); have n4_ := Aside0.mk (below_step HB.out hb); clear HO_7; clear HO_8; clear HO502; clear HO505; clear HB; have HO_7 := n0_; have HO_8 := n1_; have HO502 := n2_; have HO505 := n3_; have HB := n4_; clear n0_ n1_ n2_ n3_ n4_; (try clear hb); obtain ⟨Ao105, co105, eo105⟩ := Kd.V_slice HO505.out; subst eo105; obtain ⟨Ao106, co106, eo106⟩ := Kd.R_slice HO_8.out; subst eo106) | (go_at_call 11; (with_reducible refine (notaryref01_Same.calls kj37 _ _ t503 _ _ t460 false _ ?side1 ?side2 ?side3 ?side4 A81.out).mono ?_); (case side1 => repeat ((exact (Kd.V_reads' HO505.out).2.2))); (case side2 => exact (Kd.V_reads' HO505.out).2.1); (case side3 => repeat ((exact (Kd.R_reads' HO_8.out).2.2))); (case side4 => exact (Kd.R_reads' HO_8.out).2.1); rintro e w' ⟨rfl, ⟨nd, rfl⟩⟩))
    go_ret
    exact ⟨by (rfl), by repeat (with_reducible first | exact HB.out | apply pw_below_drewN)⟩
  subst c82
  have H1 : ((chain_Verify.f kj37 l0 t459 (l1.length : Int) t460).bind fun t509 => (if t509 = true then ((notarylaw47_awake.f kj37).bind fun t510 => (some t510)) else (some false))) = some r := by rw [if_pos rfl] at H; exact H
  clear H
  have H := H1
  clear H1
  replace H := Option.bind_eq_some_iff.mp H
  obtain ⟨t509, A830, H⟩ := H
  replace H : (if t509 = true then ((notarylaw47_awake.f kj37).bind fun t510 => (some t510)) else (some false)) = some r := H
  have A83 := Aside0.mk A830
  clear A830
  by_cases c84 : t509 = true
  rotate_left
  · replace c84 := Bool.eq_false_iff.mpr c84
    subst c84
    have H1 : (some false) = some r := by rw [if_neg (show ¬ (false = true) by decide)] at H; exact H
    clear H
    have H := H1
    clear H1
    obtain rfl := Option.some.inj H
    obtain ⟨Ao94, co94, eo94⟩ := Kd.R_slice HO_7.out
    subst eo94
    go_wp2_with (first | ((with_reducible refine gate_callee (f := 8) rfl ?_); refine goesL_ (some 99) rfl rfl Try.func8 (by kernel_rfl) rfl #[.slice A0 l0.length c0, .slice Ao94 t459.length co94] rfl (by (try simp only [List.map_toArray, List.map_cons, List.map_nil]); (rfl)) ?_; (with_reducible refine (chain_Entries.calls kj37 _ _ l0 _ _ t459 t500 t503 t506 _ ?side1 ?side2 ?side3 ?side4 A77.out).mono ?_); (case side1 => exact Kd.C_below HR0.out HB.out); (case side2 => exact HC0.out); (case side3 => repeat ((exact (Kd.R_reads' HO_7.out).2.2))); (case side4 => exact (Kd.R_reads' HO_7.out).2.1); rintro e w95 ⟨v501, v504, rfl, ho0, ho1, hb⟩; refine ⟨_, rfl, ?_⟩; have n0_ := Aside0.mk (Kd.R_below (by exact HO_7.out) hb); have n1_ := Aside0.mk (Kd.R_below (by exact HO_8.out) hb); have n2_ := Aside0.mk (Kd.V_lower (Kd.V_mono (ok' := fun k_ => some k_ ≠ (.slice Ao94 t459.length co94 : Value).ownBlock ∧ some k_ ≠ (v464 : Value).ownBlock) ho0 (fun k_ hk_ => ⟨(Kd.fresh' (Kd.R_lt (by exact HO_7.out)) k_ hk_), (Kd.fresh' (Kd.R_lt (by exact HO_8.out)) k_ hk_)⟩)) (below_size HB.out)); have n3_ := Aside0.mk (Kd.V_lower (Kd.V_mono (ok' := fun k_ => some k_ ≠ (.slice Ao94 t459.length co94 : Value).ownBlock ∧ some k_ ≠ (v464 : Value).ownBlock) ho1 (fun k_ hk_ => ⟨(Kd.fresh' (Kd.R_lt (by exact HO_7.out)) k_ hk_), (Kd.fresh' (Kd.R_lt (by exact HO_8.out)) k_ hk_)⟩)) (below_size HB.out)); have n4_ := Aside0.mk (below_step HB.out hb); clear HO_7; clear HO_8; clear HB; have HO_7 := n0_; have HO_8 := n1_; have HO502 := n2_; have HO505 := n3_; have HB := n4_; clear n0_ n1_ n2_ n3_ n4_; (try clear hb); (try clear ho0); (try clear ho1); obtain ⟨Ao96, co96, eo96⟩ := Kd.V_slice HO502.out; subst eo96) | (go_at_call 10; (with_reducible refine (notaryref46_Alike.calls kj37 _ _ t500 _ _ l1 true _ ?side1 ?side2 ?side3 ?side4 A79.out).mono ?_); (case side1 => repeat ((exact (Kd.V_reads' HO502.out).2.2))); (case side2 => exact (Kd.V_reads' HO502.out).2.1); (case side3 => exact Kd.C_below HR1.out HB.out); (case side4 => exact HC1.out); rintro e w97 ⟨rfl, hb⟩; have n0_ := Aside0.mk (Kd.R_below (by exact HO_7.out) hb); have n1_ := Aside0.mk (Kd.R_below (by exact HO_8.out) hb); have n2_ := Aside0.mk (Kd.V_below (by exact HO502.out) hb); have n3_ := Aside0.mk (Kd.V_below (by exact HO505.out) hb); have n4_ := Aside0.mk (below_step HB.out hb); clear HO_7; clear HO_8; clear HO502; clear HO505; clear HB; have HO_7 := n0_; have HO_8 := n1_; have HO502 := n2_; have HO505 := n3_; have HB := n4_; clear n0_ n1_ n2_ n3_ n4_; (try clear hb); obtain ⟨Ao98, co98, eo98⟩ := Kd.V_slice HO505.out; subst eo98; obtain ⟨Ao99, co99, eo99⟩ := Kd.R_slice HO_8.out; subst eo99) | (go_at_call 11; (with_reducible refine (notaryref01_Same.calls kj37 _ _ t503 _ _ t460 true _ ?side1 ?side2 ?side3 ?side4 A81.out).mono ?_); (case side1 => repeat ((exact (Kd.V_reads' HO505.out).2.2))); (case side2 => exact (Kd.V_reads' HO505.out).2.1); (case side3 => repeat ((exact (Kd.R_reads' HO_8.out).2.2))); (case side4 => exact (Kd.R_reads' HO_8.out).2.1); rintro e w' ⟨rfl, ⟨nd, rfl⟩⟩) | (go_at_call 12; (with_reducible refine (chain_Verify.calls kj37 _ _ l0 _ _ t459 (l1.length : Int) _ _ t460 false _ ?side1 ?side2 ?side3 ?side4 ?side5 ?side6 A83.out).mono ?_); (case side1 => repeat ((exact (Kd.C_below HR0.out (by repeat (with_reducible first | exact HB.out | apply pw_below_drewN)))))); (case side2 => exact HC0.out); (case side3 => repeat ((exact (Kd.R_reads' HO_7.out).2.2))); (case side4 => exact (Kd.R_reads' HO_7.out).2.1); (case side5 => repeat ((exact (Kd.R_reads' HO_8.out).2.2))); (case side6 => exact (Kd.R_reads' HO_8.out).2.1); rintro e w100 ⟨rfl, hb⟩; have n0_ := Aside0.mk (Kd.R_below (by (with_reducible repeat (apply Kd.R_drewN)); exact HO_7.out) hb); have n1_ := Aside0.mk (Kd.R_below (by (with_reducible repeat (apply Kd.R_drewN)); exact HO_8.out) hb); have n2_ := Aside0.mk (Kd.V_below (by (with_reducible repeat (apply Kd.V_drewN)); exact HO502.out) hb); have n3_ := Aside0.mk (Kd.V_below (by (with_reducible repeat (apply Kd.V_drewN)); exact HO505.out) hb); have n4_ := Aside0.mk (below_step (by repeat (with_reducible first | exact HB.out | apply pw_below_drewN)) hb); clear HO_7; clear HO_8; clear HO502; clear HO505; clear HB; have HO_7 := n0_; have HO_8 := n1_; have HO502 := n2_; have HO505 := n3_; have HB := n4_; clear n0_ n1_ n2_ n3_ n4_; (try clear hb); (skip)))
    go_ret
    exact ⟨by (rfl), HB.out⟩
  subst c84
  have H1 : ((notarylaw47_awake.f kj37).bind fun t510 => (some t510)) = some r := by rw [if_pos rfl] at H; exact H
  clear H
  have H := H1
  clear H1
  replace H := Option.bind_eq_some_iff.mp H
  obtain ⟨t510, A850, H⟩ := H
  replace H : (some t510) = some r := H
  have A85 := Aside0.mk A850
  clear A850
  obtain rfl := Option.some.inj H
  obtain ⟨Ao86, co86, eo86⟩ := Kd.R_slice HO_7.out
  subst eo86
  go_wp2_with (first | ((with_reducible refine gate_callee (f := 8) rfl ?_); refine goesL_ (some 99) rfl rfl Try.func8 (by kernel_rfl) rfl #[.slice A0 l0.length c0, .slice Ao86 t459.length co86] rfl (by (try simp only [List.map_toArray, List.map_cons, List.map_nil]); (rfl)) ?_; (with_reducible refine (chain_Entries.calls kj37 _ _ l0 _ _ t459 t500 t503 t506 _ ?side1 ?side2 ?side3 ?side4 A77.out).mono ?_); (case side1 => exact Kd.C_below HR0.out HB.out); (case side2 => exact HC0.out); (case side3 => repeat ((exact (Kd.R_reads' HO_7.out).2.2))); (case side4 => exact (Kd.R_reads' HO_7.out).2.1); rintro e w87 ⟨v501, v504, rfl, ho0, ho1, hb⟩; refine ⟨_, rfl, ?_⟩; have n0_ := Aside0.mk (Kd.R_below (by exact HO_7.out) hb); have n1_ := Aside0.mk (Kd.R_below (by exact HO_8.out) hb); have n2_ := Aside0.mk (Kd.V_lower (Kd.V_mono (ok' := fun k_ => some k_ ≠ (.slice Ao86 t459.length co86 : Value).ownBlock ∧ some k_ ≠ (v464 : Value).ownBlock) ho0 (fun k_ hk_ => ⟨(Kd.fresh' (Kd.R_lt (by exact HO_7.out)) k_ hk_), (Kd.fresh' (Kd.R_lt (by exact HO_8.out)) k_ hk_)⟩)) (below_size HB.out)); have n3_ := Aside0.mk (Kd.V_lower (Kd.V_mono (ok' := fun k_ => some k_ ≠ (.slice Ao86 t459.length co86 : Value).ownBlock ∧ some k_ ≠ (v464 : Value).ownBlock) ho1 (fun k_ hk_ => ⟨(Kd.fresh' (Kd.R_lt (by exact HO_7.out)) k_ hk_), (Kd.fresh' (Kd.R_lt (by exact HO_8.out)) k_ hk_)⟩)) (below_size HB.out)); have n4_ := Aside0.mk (below_step HB.out hb); clear HO_7; clear HO_8; clear HB; have HO_7 := n0_; have HO_8 := n1_; have HO502 := n2_; have HO505 := n3_; have HB := n4_; clear n0_ n1_ n2_ n3_ n4_; (try clear hb); (try clear ho0); (try clear ho1); obtain ⟨Ao88, co88, eo88⟩ := Kd.V_slice HO502.out; subst eo88) | (go_at_call 10; (with_reducible refine (notaryref46_Alike.calls kj37 _ _ t500 _ _ l1 true _ ?side1 ?side2 ?side3 ?side4 A79.out).mono ?_); (case side1 => repeat ((exact (Kd.V_reads' HO502.out).2.2))); (case side2 => exact (Kd.V_reads' HO502.out).2.1); (case side3 => exact Kd.C_below HR1.out HB.out); (case side4 => exact HC1.out); rintro e w89 ⟨rfl, hb⟩; have n0_ := Aside0.mk (Kd.R_below (by exact HO_7.out) hb); have n1_ := Aside0.mk (Kd.R_below (by exact HO_8.out) hb); have n2_ := Aside0.mk (Kd.V_below (by exact HO502.out) hb); have n3_ := Aside0.mk (Kd.V_below (by exact HO505.out) hb); have n4_ := Aside0.mk (below_step HB.out hb); clear HO_7; clear HO_8; clear HO502; clear HO505; clear HB; have HO_7 := n0_; have HO_8 := n1_; have HO502 := n2_; have HO505 := n3_; have HB := n4_; clear n0_ n1_ n2_ n3_ n4_; (try clear hb); obtain ⟨Ao90, co90, eo90⟩ := Kd.V_slice HO505.out; subst eo90; obtain ⟨Ao91, co91, eo91⟩ := Kd.R_slice HO_8.out; subst eo91) | (go_at_call 11; (with_reducible refine (notaryref01_Same.calls kj37 _ _ t503 _ _ t460 true _ ?side1 ?side2 ?side3 ?side4 A81.out).mono ?_); (case side1 => repeat ((exact (Kd.V_reads' HO505.out).2.2))); (case side2 => exact (Kd.V_reads' HO505.out).2.1); (case side3 => repeat ((exact (Kd.R_reads' HO_8.out).2.2))); (case side4 => exact (Kd.R_reads' HO_8.out).2.1); rintro e w' ⟨rfl, ⟨nd, rfl⟩⟩) | (go_at_call 12; (with_reducible refine (chain_Verify.calls kj37 _ _ l0 _ _ t459 (l1.length : Int) _ _ t460 true _ ?side1 ?side2 ?side3 ?side4 ?side5 ?side6 A83.out).mono ?_); (case side1 => repeat ((exact (Kd.C_below HR0.out (by repeat (with_reducible first | exact HB.out | apply pw_below_drewN)))))); (case side2 => exact HC0.out); (case side3 => repeat ((exact (Kd.R_reads' HO_7.out).2.2))); (case side4 => exact (Kd.R_reads' HO_7.out).2.1); (case side5 => repeat ((exact (Kd.R_reads' HO_8.out).2.2))); (case side6 => exact (Kd.R_reads' HO_8.out).2.1); rintro e w92 ⟨rfl, hb⟩; have n0_ := Aside0.mk (Kd.R_below (by (with_reducible repeat (apply Kd.R_drewN)); exact HO_7.out) hb); have n1_ := Aside0.mk (Kd.R_below (by (with_reducible repeat (apply Kd.R_drewN)); exact HO_8.out) hb); have n2_ := Aside0.mk (Kd.V_below (by (with_reducible repeat (apply Kd.V_drewN)); exact HO502.out) hb); have n3_ := Aside0.mk (Kd.V_below (by (with_reducible repeat (apply Kd.V_drewN)); exact HO505.out) hb); have n4_ := Aside0.mk (below_step (by repeat (with_reducible first | exact HB.out | apply pw_below_drewN)) hb); clear HO_7; clear HO_8; clear HO502; clear HO505; clear HB; have HO_7 := n0_; have HO_8 := n1_; have HO502 := n2_; have HO505 := n3_; have HB := n4_; clear n0_ n1_ n2_ n3_ n4_; (try clear hb); (skip)) | (go_at_call 7; (with_reducible refine (notarylaw47_awake.calls kj37  t510 _ A85.out).mono ?_); rintro e w93 ⟨rfl, hb⟩; have n0_ := Aside0.mk (Kd.R_below (by exact HO_7.out) hb); have n1_ := Aside0.mk (Kd.R_below (by exact HO_8.out) hb); have n2_ := Aside0.mk (Kd.V_below (by exact HO502.out) hb); have n3_ := Aside0.mk (Kd.V_below (by exact HO505.out) hb); have n4_ := Aside0.mk (below_step HB.out hb); clear HO_7; clear HO_8; clear HO502; clear HO505; clear HB; have HO_7 := n0_; have HO_8 := n1_; have HO502 := n2_; have HO505 := n3_; have HB := n4_; clear n0_ n1_ n2_ n3_ n4_; (try clear hb); (skip)))
  go_ret
  exact ⟨by (rfl), HB.out⟩
end Go.Proofs.Ytnkkgeglnmggpaa.PCb
