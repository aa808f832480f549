-- SLIM: a printed text of which the unused ways are cut off
-- PRINTED by print.py (a twelfth state) out of the translation. Not trusted: Lean checks it.
import Derived.Test.YtiamcmjdoobaeaaPCdx0
import Derived.Test.YtiamcmjdoobaeaaPCdx5
namespace Go.Proofs.Ytiamcmjdoobaeaa.PCd
open Go.RowKit Go.Proofs.YtiamcmjdoobaeaaW.PrintWords Go.Proofs.YtiamcmjdoobaeaaW.PrintLast Go.Proofs.YtiamcmjdoobaeaaW.PrintMore
attribute [local go_sem] max2_int min2_int max_two min_two max_three min_three max_four min_four   -- for this text's walks alone
set_option linter.unusedVariables false
set_option linter.unusedSimpArgs false

/-! ### notaryref35_Count: function 38 -/
mutual
def notaryref35_Count.j0 : Nat → Int → Int → Bool → Int → List Int → Int → Bool → List Int → List Int → Int → Int → ByteArray → List (S25) → Int → Int → List (S42) → Option (Int)
  | 0, _, _, _, _, _, _, _, _, _, _, _, _, _, _, _, _ => none
  | k + 1, x1, x2, x20, x140000, x140001, x140002, x140003, x140004, x140005, x140006, x140007, x140008, x140009, x140010, x140011, x140012 => if x20 = true then (some (-1)) else (notaryref35_Count.l0 k (wrap64 (x1 - 1)) x2 0 x140000 x140001 x140002 x140003 x140004 x140005 x140006 x140007 x140008 x140009 x140010 x140011 x140012)
def notaryref35_Count.l0 : Nat → Int → Int → Int → Int → List Int → Int → Bool → List Int → List Int → Int → Int → ByteArray → List (S25) → Int → Int → List (S42) → Option (Int)
  | 0, _, _, _, _, _, _, _, _, _, _, _, _, _, _, _, _ => none
  | k + 1, x1, x2, x7, x140000, x140001, x140002, x140003, x140004, x140005, x140006, x140007, x140008, x140009, x140010, x140011, x140012 => if x7 < (x140012.length : Int) then (if x1 ≥ 0 then (if 0 ≤ x7 then ((notaryref35_Count.f k ((rd_T42 x140012 x7).f0) ((rd_T42 x140012 x7).f1) ((rd_T42 x140012 x7).f2.f0) ((rd_T42 x140012 x7).f2.f1) ((rd_T42 x140012 x7).f2.f2) ((rd_T42 x140012 x7).f2.f3) ((rd_T42 x140012 x7).f2.f4.f0) ((rd_T42 x140012 x7).f2.f4.f1) ((rd_T42 x140012 x7).f2.f4.f2) ((rd_T42 x140012 x7).f2.f4.f3) ((rd_T42 x140012 x7).f2.f4.f4) ((rd_T42 x140012 x7).f2.f4.f5) ((rd_T42 x140012 x7).f3) x1 (wrap64 (x2 - 1))).bind fun t142 => (notaryref35_Count.l0 k t142 x2 (wrap64 (x7 + 1)) x140000 x140001 x140002 x140003 x140004 x140005 x140006 x140007 x140008 x140009 x140010 x140011 x140012)) else (none)) else (some x1)) else (some x1)
def notaryref35_Count.f : Nat → Int → List Int → Int → Bool → List Int → List Int → Int → Int → ByteArray → List (S25) → Int → Int → List (S42) → Int → Int → Option (Int)
  | 0, _, _, _, _, _, _, _, _, _, _, _, _, _, _, _ => none
  | k + 1, a0_0, l0_1, a0_2, a0_3, l0_4, l0_5, a0_6, a0_7, a0_8, l0_9, a0_10, a0_11, l0_12, a1, a2 => if a2 ≤ 0 then (notaryref35_Count.j0 k a1 a2 true a0_0 l0_1 a0_2 a0_3 l0_4 l0_5 a0_6 a0_7 a0_8 l0_9 a0_10 a0_11 l0_12) else (if (l0_1.length : Int) > 60 then (notaryref35_Count.j0 k a1 a2 true a0_0 l0_1 a0_2 a0_3 l0_4 l0_5 a0_6 a0_7 a0_8 l0_9 a0_10 a0_11 l0_12) else ((notaryref34_Large.f k a0_2 a0_3 l0_4 l0_5 a0_6 a0_7 a0_8 l0_9 a0_10 a0_11).bind fun t140 => (notaryref35_Count.j0 k a1 a2 t140 a0_0 l0_1 a0_2 a0_3 l0_4 l0_5 a0_6 a0_7 a0_8 l0_9 a0_10 a0_11 l0_12)))
end
set_option maxHeartbeats 8000000 in
set_option maxRecDepth 100000 in
theorem notaryref35_Count.calls (k : Nat) : ∀ (a0_0 : Int) (A0_1 : Option Addr) (c0_1 : Nat) (l0_1 : List Int) (a0_2 : Int) (a0_3 : Bool) (A0_4 : Option Addr) (c0_4 : Nat) (l0_4 : List Int) (A0_5 : Option Addr) (c0_5 : Nat) (l0_5 : List Int) (a0_6 : Int) (a0_7 : Int) (a0_8 : ByteArray) (A0_9 : Option Addr) (c0_9 : Nat) (l0_9 : List (S25)) (a0_10 : Int) (a0_11 : Int) (A0_12 : Option Addr) (c0_12 : Nat) (l0_12 : List (S42)) (a1 : Int) (a2 : Int) (r : Int) (w : World) (hr0_1 : Kd.C (Kd.int .i64) w A0_1 l0_1.length l0_1) (hc0_1 : l0_1.length ≤ c0_1) (hr0_4 : Kd.C (Kd.int .i64) w A0_4 l0_4.length l0_4) (hc0_4 : l0_4.length ≤ c0_4) (hr0_5 : Kd.C (Kd.int .i64) w A0_5 l0_5.length l0_5) (hc0_5 : l0_5.length ≤ c0_5) (hr0_9 : Kd.C k25 w A0_9 l0_9.length l0_9) (hc0_9 : l0_9.length ≤ c0_9) (hr0_12 : Kd.C k42 w A0_12 l0_12.length l0_12) (hc0_12 : l0_12.length ≤ c0_12) (h : notaryref35_Count.f k a0_0 l0_1 a0_2 a0_3 l0_4 l0_5 a0_6 a0_7 a0_8 l0_9 a0_10 a0_11 l0_12 a1 a2 = some r),
    Calls Try.prog 38 #[.agg #[.int .i64 a0_0, .slice A0_1 l0_1.length c0_1, .int .i64 a0_2, .bool a0_3, .slice A0_4 l0_4.length c0_4, .slice A0_5 l0_5.length c0_5, .int .i64 a0_6, .int .i64 a0_7, .string a0_8, .slice A0_9 l0_9.length c0_9, .int .i64 a0_10, .int .i64 a0_11, .slice A0_12 l0_12.length c0_12], .int .i64 a1, .int .i64 a2] w fun e w' => e = .returned (.int .i64 r) ∧ Below w.heap.size w w' := by
  induction k using Nat.strongRecOn with
  | _ k ih =>
  intro a0_0 A0_1 c0_1 l0_1 a0_2 a0_3 A0_4 c0_4 l0_4 A0_5 c0_5 l0_5 a0_6 a0_7 a0_8 A0_9 c0_9 l0_9 a0_10 a0_11 A0_12 c0_12 l0_12 a1 a2 r w hr0_1 hc0_1 hr0_4 hc0_4 hr0_5 hc0_5 hr0_9 hc0_9 hr0_12 hc0_12 h
  cases k with
  | zero => exact absurd h (by simp [notaryref35_Count.f])
  | succ k =>
  simp only [notaryref35_Count.f] at h
  have hu42 := Try.underlying42
  have hu39 := Try.underlying39
  have HR0_1 := Aside0.mk hr0_1
  have HC0_1 := Aside0.mk hc0_1
  clear hr0_1 hc0_1
  have HR0_4 := Aside0.mk hr0_4
  have HC0_4 := Aside0.mk hc0_4
  clear hr0_4 hc0_4
  have HR0_5 := Aside0.mk hr0_5
  have HC0_5 := Aside0.mk hc0_5
  clear hr0_5 hc0_5
  have HR0_9 := Aside0.mk hr0_9
  have HC0_9 := Aside0.mk hc0_9
  clear hr0_9 hc0_9
  have HR0_12 := Aside0.mk hr0_12
  have HC0_12 := Aside0.mk hc0_12
  clear hr0_12 hc0_12
  have HB := Aside0.mk (Below.refl w.heap.size w)
  have H : (if a2 ≤ 0 then (notaryref35_Count.j0 k a1 a2 true a0_0 l0_1 a0_2 a0_3 l0_4 l0_5 a0_6 a0_7 a0_8 l0_9 a0_10 a0_11 l0_12) else (if (l0_1.length : Int) > 60 then (notaryref35_Count.j0 k a1 a2 true a0_0 l0_1 a0_2 a0_3 l0_4 l0_5 a0_6 a0_7 a0_8 l0_9 a0_10 a0_11 l0_12) else ((notaryref34_Large.f k a0_2 a0_3 l0_4 l0_5 a0_6 a0_7 a0_8 l0_9 a0_10 a0_11).bind fun t140 => (notaryref35_Count.j0 k a1 a2 t140 a0_0 l0_1 a0_2 a0_3 l0_4 l0_5 a0_6 a0_7 a0_8 l0_9 a0_10 a0_11 l0_12)))) = some r := h
  clear h
  have HC4 := Aside0.mk H
  clear H
  go_enter Try.func38, Try.ntmps38
  go_upto_region 1 with ((((with_reducible refine gate_dst (N := 3) rfl ?_); (try (refine gate_guard (by rfl) ?_; dsimp only)); refine box_event ?hg (N := 3) ?hd (cs := #[.int .i64 a0_0, .slice A0_1 l0_1.length c0_1, .int .i64 a0_2, .bool a0_3, .slice A0_4 l0_4.length c0_4, .slice A0_5 l0_5.length c0_5, .int .i64 a0_6, .int .i64 a0_7, .string a0_8, .slice A0_9 l0_9.length c0_9, .int .i64 a0_10, .int .i64 a0_11, .slice A0_12 l0_12.length c0_12]) (t := 42) ?hr ?_; (case hd => rfl); (case hg => rfl); (case hr => (go_simp; done)); intro gb139 hg w5 hbox hb; have n0_ := Aside0.mk (below_step HB.out hb); have n1_ := Aside0.mk (hbox); have n2_ := Aside0.mk ((by rw [hg]; exact (below_size HB.out) : w.heap.size ≤ gb139)); have n3_ := Aside0.mk ((by rw [hg]; exact (below_size HB.out) : w.heap.size ≤ gb139)); clear HB; have HB := n0_; have BK139 := n1_; have GW139 := n2_; have GE139 := n3_; clear n0_ n1_ n2_ n3_; clear hb hbox hg)))
  (skip)
  go_cut [20] (fun v20 wc => ∃ (kq : Nat) (x20_3 : Bool), v20 = .bool x20_3 ∧ Aside0 (notaryref35_Count.j0 kq a1 a2 x20_3 a0_0 l0_1 a0_2 a0_3 l0_4 l0_5 a0_6 a0_7 a0_8 l0_9 a0_10 a0_11 l0_12 = some r) ∧ Aside0 (kq ≤ k) ∧ Aside0 (wc.heap[gb139]? = some (.cells #[.int .i64 a0_0, (.slice A0_1 l0_1.length c0_1), .int .i64 a0_2, .bool a0_3, (.slice A0_4 l0_4.length c0_4), (.slice A0_5 l0_5.length c0_5), .int .i64 a0_6, .int .i64 a0_7, .string a0_8, (.slice A0_9 l0_9.length c0_9), .int .i64 a0_10, .int .i64 a0_11, (.slice A0_12 l0_12.length c0_12)] 42 (0, 0))) ∧ Aside0 (Below w.heap.size w wc))
  case first =>
    have H := HC4.out
    clear HC4
    by_cases c6 : a2 ≤ 0
    · rw [if_pos c6] at H
      have c6b0 : decide (a2 ≤ 0) = true := decide_eq_true c6
      clear c6
      (skip)
      have H' := Aside0.mk H
      clear H
      go_wp2
      go_meet
      case rel => exact ⟨_, (true), (by (rfl)), H', ⟨by (omega)⟩, ⟨by exact BK139.out⟩, ⟨HB.out⟩⟩
    rw [if_neg c6] at H
    have c6b0 : decide (a2 ≤ 0) = false := decide_eq_false c6
    clear c6
    (skip)
    by_cases c7 : (l0_1.length : Int) > 60
    · rw [if_pos c7] at H
      have c7b0 : decide (60 < (l0_1.length : Int)) = true := decide_eq_true c7
      have c7b1 : decide (60 < l0_1.length) = true := decide_eq_true (by omega)
      clear c7
      have H' := Aside0.mk H
      clear H
      have hcz8_0 : w5.cell? ⟨gb139, 0, none⟩ = some (.int .i64 a0_0) := (blk_cell BK139.out 0).trans rfl
      have hcz8_1 : w5.cell? ⟨gb139, 1, none⟩ = some (.slice A0_1 l0_1.length c0_1) := (blk_cell BK139.out 1).trans rfl
      have hcz8_2 : w5.cell? ⟨gb139, 2, none⟩ = some (.int .i64 a0_2) := (blk_cell BK139.out 2).trans rfl
      have hcz8_3 : w5.cell? ⟨gb139, 3, none⟩ = some (.bool a0_3) := (blk_cell BK139.out 3).trans rfl
      have hcz8_4 : w5.cell? ⟨gb139, 4, none⟩ = some (.slice A0_4 l0_4.length c0_4) := (blk_cell BK139.out 4).trans rfl
      have hcz8_5 : w5.cell? ⟨gb139, 5, none⟩ = some (.slice A0_5 l0_5.length c0_5) := (blk_cell BK139.out 5).trans rfl
      have hcz8_6 : w5.cell? ⟨gb139, 6, none⟩ = some (.int .i64 a0_6) := (blk_cell BK139.out 6).trans rfl
      have hcz8_7 : w5.cell? ⟨gb139, 7, none⟩ = some (.int .i64 a0_7) := (blk_cell BK139.out 7).trans rfl
      have hcz8_8 : w5.cell? ⟨gb139, 8, none⟩ = some (.string a0_8) := (blk_cell BK139.out 8).trans rfl
      have hcz8_9 : w5.cell? ⟨gb139, 9, none⟩ = some (.slice A0_9 l0_9.length c0_9) := (blk_cell BK139.out 9).trans rfl
      have hcz8_10 : w5.cell? ⟨gb139, 10, none⟩ = some (.int .i64 a0_10) := (blk_cell BK139.out 10).trans rfl
      have hcz8_11 : w5.cell? ⟨gb139, 11, none⟩ = some (.int .i64 a0_11) := (blk_cell BK139.out 11).trans rfl
      have hcz8_12 : w5.cell? ⟨gb139, 12, none⟩ = some (.slice A0_12 l0_12.length c0_12) := (blk_cell BK139.out 12).trans rfl
      have hfz8_0 := blk_frozen BK139.out 0
      have hfz8_1 := blk_frozen BK139.out 1
      have hfz8_2 := blk_frozen BK139.out 2
      have hfz8_3 := blk_frozen BK139.out 3
      have hfz8_4 := blk_frozen BK139.out 4
      have hfz8_5 := blk_frozen BK139.out 5
      have hfz8_6 := blk_frozen BK139.out 6
      have hfz8_7 := blk_frozen BK139.out 7
      have hfz8_8 := blk_frozen BK139.out 8
      have hfz8_9 := blk_frozen BK139.out 9
      have hfz8_10 := blk_frozen BK139.out 10
      have hfz8_11 := blk_frozen BK139.out 11
      have hfz8_12 := blk_frozen BK139.out 12
      go_wp2
      go_meet
      case rel => exact ⟨_, (true), (by (rfl)), H', ⟨by (omega)⟩, ⟨by exact BK139.out⟩, ⟨HB.out⟩⟩
    rw [if_neg c7] at H
    have c7b0 : decide (60 < (l0_1.length : Int)) = false := decide_eq_false c7
    have c7b1 : decide (60 < l0_1.length) = false := decide_eq_false (by omega)
    clear c7
    replace H := Option.bind_eq_some_iff.mp H
    obtain ⟨t140, A90, H⟩ := H
    replace H : (notaryref35_Count.j0 k a1 a2 t140 a0_0 l0_1 a0_2 a0_3 l0_4 l0_5 a0_6 a0_7 a0_8 l0_9 a0_10 a0_11 l0_12) = some r := H
    have A9 := Aside0.mk A90
    clear A90
    have H' := Aside0.mk H
    clear H
    have hcz10_0 : w5.cell? ⟨gb139, 0, none⟩ = some (.int .i64 a0_0) := (blk_cell BK139.out 0).trans rfl
    have hcz10_1 : w5.cell? ⟨gb139, 1, none⟩ = some (.slice A0_1 l0_1.length c0_1) := (blk_cell BK139.out 1).trans rfl
    have hcz10_2 : w5.cell? ⟨gb139, 2, none⟩ = some (.int .i64 a0_2) := (blk_cell BK139.out 2).trans rfl
    have hcz10_3 : w5.cell? ⟨gb139, 3, none⟩ = some (.bool a0_3) := (blk_cell BK139.out 3).trans rfl
    have hcz10_4 : w5.cell? ⟨gb139, 4, none⟩ = some (.slice A0_4 l0_4.length c0_4) := (blk_cell BK139.out 4).trans rfl
    have hcz10_5 : w5.cell? ⟨gb139, 5, none⟩ = some (.slice A0_5 l0_5.length c0_5) := (blk_cell BK139.out 5).trans rfl
    have hcz10_6 : w5.cell? ⟨gb139, 6, none⟩ = some (.int .i64 a0_6) := (blk_cell BK139.out 6).trans rfl
    have hcz10_7 : w5.cell? ⟨gb139, 7, none⟩ = some (.int .i64 a0_7) := (blk_cell BK139.out 7).trans rfl
    have hcz10_8 : w5.cell? ⟨gb139, 8, none⟩ = some (.string a0_8) := (blk_cell BK139.out 8).trans rfl
    have hcz10_9 : w5.cell? ⟨gb139, 9, none⟩ = some (.slice A0_9 l0_9.length c0_9) := (blk_cell BK139.out 9).trans rfl
    have hcz10_10 : w5.cell? ⟨gb139, 10, none⟩ = some (.int .i64 a0_10) := (blk_cell BK139.out 10).trans rfl
    have hcz10_11 : w5.cell? ⟨gb139, 11, none⟩ = some (.int .i64 a0_11) := (blk_cell BK139.out 11).trans rfl
    have hcz10_12 : w5.cell? ⟨gb139, 12, none⟩ = some (.slice A0_12 l0_12.length c0_12) := (blk_cell BK139.out 12).trans rfl
    have hfz10_0 := blk_frozen BK139.out 0
    have hfz10_1 := blk_frozen BK139.out 1
    have hfz10_2 := blk_frozen BK139.out 2
    have hfz10_3 := blk_frozen BK139.out 3
    have hfz10_4 := blk_frozen BK139.out 4
    have hfz10_5 := blk_frozen BK139.out 5
    have hfz10_6 := blk_frozen BK139.out 6
    have hfz10_7 := blk_frozen BK139.out 7
    have hfz10_8 := blk_frozen BK139.out 8
    have hfz10_9 := blk_frozen BK139.out 9
    have hfz10_10 := blk_frozen BK139.out 10
    have hfz10_11 := blk_frozen BK139.out 11
    have hfz10_12 := blk_frozen BK139.out 12
    go_wp2_with (((go_at_call 74; (with_reducible refine (notaryref34_Large.calls k a0_2 a0_3 _ _ l0_4 _ _ l0_5 a0_6 a0_7 a0_8 _ _ l0_9 a0_10 a0_11 t140 _ ?side1 ?side2 ?side3 ?side4 ?side5 ?side6 A9.out).mono ?_); (case side1 => exact Kd.C_below HR0_4.out HB.out); (case side2 => exact HC0_4.out); (case side3 => exact Kd.C_below HR0_5.out HB.out); (case side4 => exact HC0_5.out); (case side5 => exact Kd.C_below HR0_9.out HB.out); (case side6 => exact HC0_9.out); rintro e w11 ⟨rfl, hb⟩; have n0_ := Aside0.mk (blk_below (g := gb139) (o := .cells #[.int .i64 a0_0, .slice A0_1 l0_1.length c0_1, .int .i64 a0_2, .bool a0_3, .slice A0_4 l0_4.length c0_4, .slice A0_5 l0_5.length c0_5, .int .i64 a0_6, .int .i64 a0_7, .string a0_8, .slice A0_9 l0_9.length c0_9, .int .i64 a0_10, .int .i64 a0_11, .slice A0_12 l0_12.length c0_12] 42 (0, 0)) (by exact BK139.out) hb); have n1_ := Aside0.mk (below_step HB.out hb); clear BK139; clear HB; have BK139 := n0_; have HB := n1_; clear n0_ n1_; (try clear hb); (skip))))
    go_meet
    case rel => exact ⟨_, (t140), (by (rfl)), H', ⟨by (omega)⟩, ⟨by exact BK139.out⟩, ⟨HB.out⟩⟩
  clear HC4
  obtain ⟨kq, x20_3, rfl, HA, HJ3, BK139, HB⟩ := hcut
  rcases kq with _ | kj3
  · exact absurd HA.out (by simp [notaryref35_Count.j0])
  have H := HA.out
  clear HA
  simp only [notaryref35_Count.j0] at H
  by_cases c12 : x20_3 = true
  · subst c12
    have H1 : (some (-1)) = some r := by rw [if_pos rfl] at H; exact H
    clear H
    have H := H1
    clear H1
    obtain rfl := Option.some.inj H
    go_wp2
    go_ret
    exact ⟨by (rfl), HB.out⟩
  replace c12 := Bool.eq_false_iff.mpr c12
  subst c12
  have H1 : (notaryref35_Count.l0 kj3 (wrap64 (a1 - 1)) a2 0 a0_0 l0_1 a0_2 a0_3 l0_4 l0_5 a0_6 a0_7 a0_8 l0_9 a0_10 a0_11 l0_12) = some r := by rw [if_neg (show ¬ (false = true) by decide)] at H; exact H
  clear H
  have H := H1
  clear H1
  have H' := Aside0.mk H
  clear H
  go_wp2
  go_loopg [1, 7] kj3 (fun kq v1 v7 w' => ∃ (x1_2 : Int) (x7_2 : Int), v1 = .int .i64 x1_2 ∧ v7 = .int .i64 x7_2 ∧ Aside0 (notaryref35_Count.l0 kq x1_2 a2 x7_2 a0_0 l0_1 a0_2 a0_3 l0_4 l0_5 a0_6 a0_7 a0_8 l0_9 a0_10 a0_11 l0_12 = some r) ∧ Aside0 (kq ≤ kj3) ∧ Aside0 (w'.heap[gb139]? = some (.cells #[.int .i64 a0_0, (.slice A0_1 l0_1.length c0_1), .int .i64 a0_2, .bool a0_3, (.slice A0_4 l0_4.length c0_4), (.slice A0_5 l0_5.length c0_5), .int .i64 a0_6, .int .i64 a0_7, .string a0_8, (.slice A0_9 l0_9.length c0_9), .int .i64 a0_10, .int .i64 a0_11, (.slice A0_12 l0_12.length c0_12)] 42 (0, 0))) ∧ Aside0 (Below w.heap.size w w'))
  case atStart => exact ⟨(wrap64 (a1 - 1)), (0), (by (rfl)), (by (rfl)), H', ⟨Nat.le_refl _⟩, ⟨by exact BK139.out⟩, ⟨HB.out⟩⟩
  clear H'
  obtain ⟨x1_2, x7_2, rfl, rfl, HA, HK2, BK139, HB⟩ := hrel
  rcases gk with _ | k2
  · exact absurd HA.out (by simp [notaryref35_Count.l0])
  have H := HA.out
  clear HA
  simp only [notaryref35_Count.l0] at H
  by_cases c13 : x7_2 < (l0_12.length : Int)
  rotate_left
  · rw [if_neg c13] at H
    have c13b0 : decide (x7_2 < (l0_12.length : Int)) = false := decide_eq_false c13
    clear c13
    obtain rfl := Option.some.inj H
    have hcz20_0 : wr.cell? ⟨gb139, 0, none⟩ = some (.int .i64 a0_0) := (blk_cell BK139.out 0).trans rfl
    have hcz20_1 : wr.cell? ⟨gb139, 1, none⟩ = some (.slice A0_1 l0_1.length c0_1) := (blk_cell BK139.out 1).trans rfl
    have hcz20_2 : wr.cell? ⟨gb139, 2, none⟩ = some (.int .i64 a0_2) := (blk_cell BK139.out 2).trans rfl
    have hcz20_3 : wr.cell? ⟨gb139, 3, none⟩ = some (.bool a0_3) := (blk_cell BK139.out 3).trans rfl
    have hcz20_4 : wr.cell? ⟨gb139, 4, none⟩ = some (.slice A0_4 l0_4.length c0_4) := (blk_cell BK139.out 4).trans rfl
    have hcz20_5 : wr.cell? ⟨gb139, 5, none⟩ = some (.slice A0_5 l0_5.length c0_5) := (blk_cell BK139.out 5).trans rfl
    have hcz20_6 : wr.cell? ⟨gb139, 6, none⟩ = some (.int .i64 a0_6) := (blk_cell BK139.out 6).trans rfl
    have hcz20_7 : wr.cell? ⟨gb139, 7, none⟩ = some (.int .i64 a0_7) := (blk_cell BK139.out 7).trans rfl
    have hcz20_8 : wr.cell? ⟨gb139, 8, none⟩ = some (.string a0_8) := (blk_cell BK139.out 8).trans rfl
    have hcz20_9 : wr.cell? ⟨gb139, 9, none⟩ = some (.slice A0_9 l0_9.length c0_9) := (blk_cell BK139.out 9).trans rfl
    have hcz20_10 : wr.cell? ⟨gb139, 10, none⟩ = some (.int .i64 a0_10) := (blk_cell BK139.out 10).trans rfl
    have hcz20_11 : wr.cell? ⟨gb139, 11, none⟩ = some (.int .i64 a0_11) := (blk_cell BK139.out 11).trans rfl
    have hcz20_12 : wr.cell? ⟨gb139, 12, none⟩ = some (.slice A0_12 l0_12.length c0_12) := (blk_cell BK139.out 12).trans rfl
    have hfz20_0 := blk_frozen BK139.out 0
    have hfz20_1 := blk_frozen BK139.out 1
    have hfz20_2 := blk_frozen BK139.out 2
    have hfz20_3 := blk_frozen BK139.out 3
    have hfz20_4 := blk_frozen BK139.out 4
    have hfz20_5 := blk_frozen BK139.out 5
    have hfz20_6 := blk_frozen BK139.out 6
    have hfz20_7 := blk_frozen BK139.out 7
    have hfz20_8 := blk_frozen BK139.out 8
    have hfz20_9 := blk_frozen BK139.out 9
    have hfz20_10 := blk_frozen BK139.out 10
    have hfz20_11 := blk_frozen BK139.out 11
    have hfz20_12 := blk_frozen BK139.out 12
    go_wp2
    go_ret
    exact ⟨by (rfl), HB.out⟩


  rw [if_pos c13] at H
  have c13b0 : decide (x7_2 < (l0_12.length : Int)) = true := decide_eq_true c13
  clear c13
  by_cases c14 : x1_2 ≥ 0
  rotate_left
  · rw [if_neg c14] at H
    have c14b0 : decide (0 ≤ x1_2) = false := decide_eq_false c14
    clear c14
    obtain rfl := Option.some.inj H
    have hcz19_0 : wr.cell? ⟨gb139, 0, none⟩ = some (.int .i64 a0_0) := (blk_cell BK139.out 0).trans rfl
    have hcz19_1 : wr.cell? ⟨gb139, 1, none⟩ = some (.slice A0_1 l0_1.length c0_1) := (blk_cell BK139.out 1).trans rfl
    have hcz19_2 : wr.cell? ⟨gb139, 2, none⟩ = some (.int .i64 a0_2) := (blk_cell BK139.out 2).trans rfl
    have hcz19_3 : wr.cell? ⟨gb139, 3, none⟩ = some (.bool a0_3) := (blk_cell BK139.out 3).trans rfl
    have hcz19_4 : wr.cell? ⟨gb139, 4, none⟩ = some (.slice A0_4 l0_4.length c0_4) := (blk_cell BK139.out 4).trans rfl
    have hcz19_5 : wr.cell? ⟨gb139, 5, none⟩ = some (.slice A0_5 l0_5.length c0_5) := (blk_cell BK139.out 5).trans rfl
    have hcz19_6 : wr.cell? ⟨gb139, 6, none⟩ = some (.int .i64 a0_6) := (blk_cell BK139.out 6).trans rfl
    have hcz19_7 : wr.cell? ⟨gb139, 7, none⟩ = some (.int .i64 a0_7) := (blk_cell BK139.out 7).trans rfl
    have hcz19_8 : wr.cell? ⟨gb139, 8, none⟩ = some (.string a0_8) := (blk_cell BK139.out 8).trans rfl
    have hcz19_9 : wr.cell? ⟨gb139, 9, none⟩ = some (.slice A0_9 l0_9.length c0_9) := (blk_cell BK139.out 9).trans rfl
    have hcz19_10 : wr.cell? ⟨gb139, 10, none⟩ = some (.int .i64 a0_10) := (blk_cell BK139.out 10).trans rfl
    have hcz19_11 : wr.cell? ⟨gb139, 11, none⟩ = some (.int .i64 a0_11) := (blk_cell BK139.out 11).trans rfl
    have hcz19_12 : wr.cell? ⟨gb139, 12, none⟩ = some (.slice A0_12 l0_12.length c0_12) := (blk_cell BK139.out 12).trans rfl
    have hfz19_0 := blk_frozen BK139.out 0
    have hfz19_1 := blk_frozen BK139.out 1
    have hfz19_2 := blk_frozen BK139.out 2
    have hfz19_3 := blk_frozen BK139.out 3
    have hfz19_4 := blk_frozen BK139.out 4
    have hfz19_5 := blk_frozen BK139.out 5
    have hfz19_6 := blk_frozen BK139.out 6
    have hfz19_7 := blk_frozen BK139.out 7
    have hfz19_8 := blk_frozen BK139.out 8
    have hfz19_9 := blk_frozen BK139.out 9
    have hfz19_10 := blk_frozen BK139.out 10
    have hfz19_11 := blk_frozen BK139.out 11
    have hfz19_12 := blk_frozen BK139.out 12
    go_wp2
    go_ret
    exact ⟨by (rfl), HB.out⟩
  rw [if_pos c14] at H
  have c14b0 : decide (0 ≤ x1_2) = true := decide_eq_true c14
  clear c14
  by_cases c15 : 0 ≤ x7_2
  rotate_left
  · rw [if_neg c15] at H
    exact absurd H (by simp)
  rw [if_pos c15] at H
  have c15b0 : decide (0 ≤ x7_2) = true := decide_eq_true c15
  clear c15
  replace H := Option.bind_eq_some_iff.mp H
  obtain ⟨t142, A160, H⟩ := H
  replace H : (notaryref35_Count.l0 k2 t142 a2 (wrap64 (x7_2 + 1)) a0_0 l0_1 a0_2 a0_3 l0_4 l0_5 a0_6 a0_7 a0_8 l0_9 a0_10 a0_11 l0_12) = some r := H
  have A16 := Aside0.mk A160
  clear A160
  have H' := Aside0.mk H
  clear H
  have hcz17_0 : wr.cell? ⟨gb139, 0, none⟩ = some (.int .i64 a0_0) := (blk_cell BK139.out 0).trans rfl
  have hcz17_1 : wr.cell? ⟨gb139, 1, none⟩ = some (.slice A0_1 l0_1.length c0_1) := (blk_cell BK139.out 1).trans rfl
  have hcz17_2 : wr.cell? ⟨gb139, 2, none⟩ = some (.int .i64 a0_2) := (blk_cell BK139.out 2).trans rfl
  have hcz17_3 : wr.cell? ⟨gb139, 3, none⟩ = some (.bool a0_3) := (blk_cell BK139.out 3).trans rfl
  have hcz17_4 : wr.cell? ⟨gb139, 4, none⟩ = some (.slice A0_4 l0_4.length c0_4) := (blk_cell BK139.out 4).trans rfl
  have hcz17_5 : wr.cell? ⟨gb139, 5, none⟩ = some (.slice A0_5 l0_5.length c0_5) := (blk_cell BK139.out 5).trans rfl
  have hcz17_6 : wr.cell? ⟨gb139, 6, none⟩ = some (.int .i64 a0_6) := (blk_cell BK139.out 6).trans rfl
  have hcz17_7 : wr.cell? ⟨gb139, 7, none⟩ = some (.int .i64 a0_7) := (blk_cell BK139.out 7).trans rfl
  have hcz17_8 : wr.cell? ⟨gb139, 8, none⟩ = some (.string a0_8) := (blk_cell BK139.out 8).trans rfl
  have hcz17_9 : wr.cell? ⟨gb139, 9, none⟩ = some (.slice A0_9 l0_9.length c0_9) := (blk_cell BK139.out 9).trans rfl
  have hcz17_10 : wr.cell? ⟨gb139, 10, none⟩ = some (.int .i64 a0_10) := (blk_cell BK139.out 10).trans rfl
  have hcz17_11 : wr.cell? ⟨gb139, 11, none⟩ = some (.int .i64 a0_11) := (blk_cell BK139.out 11).trans rfl
  have hcz17_12 : wr.cell? ⟨gb139, 12, none⟩ = some (.slice A0_12 l0_12.length c0_12) := (blk_cell BK139.out 12).trans rfl
  have hfz17_0 := blk_frozen BK139.out 0
  have hfz17_1 := blk_frozen BK139.out 1
  have hfz17_2 := blk_frozen BK139.out 2
  have hfz17_3 := blk_frozen BK139.out 3
  have hfz17_4 := blk_frozen BK139.out 4
  have hfz17_5 := blk_frozen BK139.out 5
  have hfz17_6 := blk_frozen BK139.out 6
  have hfz17_7 := blk_frozen BK139.out 7
  have hfz17_8 := blk_frozen BK139.out 8
  have hfz17_9 := blk_frozen BK139.out 9
  have hfz17_10 := blk_frozen BK139.out 10
  have hfz17_11 := blk_frozen BK139.out 11
  have hfz17_12 := blk_frozen BK139.out 12
  have p141 : 0 ≤ (x7_2 : Int) := of_decide_eq_true (by (with_reducible assumption))
  have q141 : x7_2 < (l0_12.length : Int) := of_decide_eq_true (by (with_reducible assumption))
  obtain ⟨ad141, A141_1, c141_1, A141_4, c141_4, A141_5, c141_5, A141_9, c141_9, A141_12, c141_12, e141, hx141_0, hx141_1, hx141_2, hx141_3, hx141_4, hx141_5, hx141_6, hx141_7, hx141_8, hx141_9, hx141_10, hx141_11, hx141_12, hl141_1, hi141_1, hl141_4, hi141_4, hl141_5, hi141_5, hl141_9, hi141_9, hl141_12, hi141_12⟩ := at_T42 HR0_12.out x7_2 p141 q141
  cases e141
  replace hx141_0 := pw_cell_below HB.out hx141_0
  replace hx141_1 := pw_cell_below HB.out hx141_1
  replace hx141_2 := pw_cell_below HB.out hx141_2
  replace hx141_3 := pw_cell_below HB.out hx141_3
  replace hx141_4 := pw_cell_below HB.out hx141_4
  replace hx141_5 := pw_cell_below HB.out hx141_5
  replace hx141_6 := pw_cell_below HB.out hx141_6
  replace hx141_7 := pw_cell_below HB.out hx141_7
  replace hx141_8 := pw_cell_below HB.out hx141_8
  replace hx141_9 := pw_cell_below HB.out hx141_9
  replace hx141_10 := pw_cell_below HB.out hx141_10
  replace hx141_11 := pw_cell_below HB.out hx141_11
  replace hx141_12 := pw_cell_below HB.out hx141_12
  have HR141_1 := Aside0.mk hi141_1
  have HC141_1 := Aside0.mk hl141_1
  clear hi141_1 hl141_1
  have HR141_4 := Aside0.mk hi141_4
  have HC141_4 := Aside0.mk hl141_4
  clear hi141_4 hl141_4
  have HR141_5 := Aside0.mk hi141_5
  have HC141_5 := Aside0.mk hl141_5
  clear hi141_5 hl141_5
  have HR141_9 := Aside0.mk hi141_9
  have HC141_9 := Aside0.mk hl141_9
  clear hi141_9 hl141_9
  have HR141_12 := Aside0.mk hi141_12
  have HC141_12 := Aside0.mk hl141_12
  clear hi141_12 hl141_12
  replace p141 := eq_true p141
  replace q141 := eq_true q141
  go_wp2_with ((((with_reducible refine gate_callee (f := 38) rfl ?_); refine goesL_ (some 42) rfl rfl Try.func38 (by kernel_rfl) rfl #[.agg #[.int .i64 ((rd_T42 l0_12 x7_2).f0), .slice A141_1 ((rd_T42 l0_12 x7_2).f1).length c141_1, .int .i64 ((rd_T42 l0_12 x7_2).f2.f0), .bool ((rd_T42 l0_12 x7_2).f2.f1), .slice A141_4 ((rd_T42 l0_12 x7_2).f2.f2).length c141_4, .slice A141_5 ((rd_T42 l0_12 x7_2).f2.f3).length c141_5, .int .i64 ((rd_T42 l0_12 x7_2).f2.f4.f0), .int .i64 ((rd_T42 l0_12 x7_2).f2.f4.f1), .string ((rd_T42 l0_12 x7_2).f2.f4.f2), .slice A141_9 ((rd_T42 l0_12 x7_2).f2.f4.f3).length c141_9, .int .i64 ((rd_T42 l0_12 x7_2).f2.f4.f4), .int .i64 ((rd_T42 l0_12 x7_2).f2.f4.f5), .slice A141_12 ((rd_T42 l0_12 x7_2).f3).length c141_12], .int .i64 x1_2, .int .i64 (wrap64 (a2 - 1))] rfl (by (try simp only [List.map_toArray, List.map_cons, List.map_nil]); (rfl)) ?_; (with_reducible refine (ih k2 (by have := HJ3.out; have := HK2.out; omega) ((rd_T42 l0_12 x7_2).f0) _ _ ((rd_T42 l0_12 x7_2).f1) ((rd_T42 l0_12 x7_2).f2.f0) ((rd_T42 l0_12 x7_2).f2.f1) _ _ ((rd_T42 l0_12 x7_2).f2.f2) _ _ ((rd_T42 l0_12 x7_2).f2.f3) ((rd_T42 l0_12 x7_2).f2.f4.f0) ((rd_T42 l0_12 x7_2).f2.f4.f1) ((rd_T42 l0_12 x7_2).f2.f4.f2) _ _ ((rd_T42 l0_12 x7_2).f2.f4.f3) ((rd_T42 l0_12 x7_2).f2.f4.f4) ((rd_T42 l0_12 x7_2).f2.f4.f5) _ _ ((rd_T42 l0_12 x7_2).f3) x1_2 (wrap64 (a2 - 1)) t142 _ ?side1 ?side2 ?side3 ?side4 ?side5 ?side6 ?side7 ?side8 ?side9 ?side10 A16.out).mono ?_); (case side1 => exact Kd.C_below HR141_1.out HB.out); (case side2 => exact HC141_1.out); (case side3 => exact Kd.C_below HR141_4.out HB.out); (case side4 => exact HC141_4.out); (case side5 => exact Kd.C_below HR141_5.out HB.out); (case side6 => exact HC141_5.out); (case side7 => exact Kd.C_below HR141_9.out HB.out); (case side8 => exact HC141_9.out); (case side9 => exact Kd.C_below HR141_12.out HB.out); (case side10 => exact HC141_12.out); rintro e w18 ⟨rfl, hb⟩; refine ⟨_, rfl, ?_⟩; have n0_ := Aside0.mk (blk_below (g := gb139) (o := .cells #[.int .i64 a0_0, .slice A0_1 l0_1.length c0_1, .int .i64 a0_2, .bool a0_3, .slice A0_4 l0_4.length c0_4, .slice A0_5 l0_5.length c0_5, .int .i64 a0_6, .int .i64 a0_7, .string a0_8, .slice A0_9 l0_9.length c0_9, .int .i64 a0_10, .int .i64 a0_11, .slice (some ad141) l0_12.length c0_12] 42 (0, 0)) (by exact BK139.out) hb); have n1_ := Aside0.mk (below_step HB.out hb); clear BK139; clear HB; have BK139 := n0_; have HB := n1_; clear n0_ n1_; (try clear hb); (skip))))
  go_roundg k2
  case measure => have := HJ3.out; have := HK2.out; omega
  case rel => exact ⟨(t142), (wrap64 (x7_2 + 1)), (by (rfl)), (by (rfl)), H', ⟨by have := HJ3.out; have := HK2.out; omega⟩, ⟨by exact BK139.out⟩, ⟨HB.out⟩⟩/-! ### notaryref35_Large: function 15 -/
def notaryref35_Large.f (k : Nat) (a0_0 : Int) (l0_1 : List Int) (a0_2 : Int) (a0_3 : Bool) (l0_4 : List Int) (l0_5 : List Int) (a0_6 : Int) (a0_7 : Int) (a0_8 : ByteArray) (l0_9 : List (S25)) (a0_10 : Int) (a0_11 : Int) (l0_12 : List (S42)) : Option (Bool) := (notaryref35_Count.f k a0_0 l0_1 a0_2 a0_3 l0_4 l0_5 a0_6 a0_7 a0_8 l0_9 a0_10 a0_11 l0_12 80 20).bind fun t144 => (some (decide (t144 < 0)))
set_option maxHeartbeats 8000000 in
set_option maxRecDepth 100000 in
theorem notaryref35_Large.calls (k : Nat) (a0_0 : Int) (A0_1 : Option Addr) (c0_1 : Nat) (l0_1 : List Int) (a0_2 : Int) (a0_3 : Bool) (A0_4 : Option Addr) (c0_4 : Nat) (l0_4 : List Int) (A0_5 : Option Addr) (c0_5 : Nat) (l0_5 : List Int) (a0_6 : Int) (a0_7 : Int) (a0_8 : ByteArray) (A0_9 : Option Addr) (c0_9 : Nat) (l0_9 : List (S25)) (a0_10 : Int) (a0_11 : Int) (A0_12 : Option Addr) (c0_12 : Nat) (l0_12 : List (S42)) (r : Bool) (w : World) (hr0_1 : Kd.C (Kd.int .i64) w A0_1 l0_1.length l0_1) (hc0_1 : l0_1.length ≤ c0_1) (hr0_4 : Kd.C (Kd.int .i64) w A0_4 l0_4.length l0_4) (hc0_4 : l0_4.length ≤ c0_4) (hr0_5 : Kd.C (Kd.int .i64) w A0_5 l0_5.length l0_5) (hc0_5 : l0_5.length ≤ c0_5) (hr0_9 : Kd.C k25 w A0_9 l0_9.length l0_9) (hc0_9 : l0_9.length ≤ c0_9) (hr0_12 : Kd.C k42 w A0_12 l0_12.length l0_12) (hc0_12 : l0_12.length ≤ c0_12) (h : notaryref35_Large.f k a0_0 l0_1 a0_2 a0_3 l0_4 l0_5 a0_6 a0_7 a0_8 l0_9 a0_10 a0_11 l0_12 = some r) :
    Calls Try.prog 15 #[.agg #[.int .i64 a0_0, .slice A0_1 l0_1.length c0_1, .int .i64 a0_2, .bool a0_3, .slice A0_4 l0_4.length c0_4, .slice A0_5 l0_5.length c0_5, .int .i64 a0_6, .int .i64 a0_7, .string a0_8, .slice A0_9 l0_9.length c0_9, .int .i64 a0_10, .int .i64 a0_11, .slice A0_12 l0_12.length c0_12]] w fun e w' => e = .returned (.bool r) ∧ Below w.heap.size w w' := by
  have hu42 := Try.underlying42
  have HR0_1 := Aside0.mk hr0_1
  have HC0_1 := Aside0.mk hc0_1
  clear hr0_1 hc0_1
  have HR0_4 := Aside0.mk hr0_4
  have HC0_4 := Aside0.mk hc0_4
  clear hr0_4 hc0_4
  have HR0_5 := Aside0.mk hr0_5
  have HC0_5 := Aside0.mk hc0_5
  clear hr0_5 hc0_5
  have HR0_9 := Aside0.mk hr0_9
  have HC0_9 := Aside0.mk hc0_9
  clear hr0_9 hc0_9
  have HR0_12 := Aside0.mk hr0_12
  have HC0_12 := Aside0.mk hc0_12
  clear hr0_12 hc0_12
  have HB := Aside0.mk (Below.refl w.heap.size w)
  have H : ((notaryref35_Count.f k a0_0 l0_1 a0_2 a0_3 l0_4 l0_5 a0_6 a0_7 a0_8 l0_9 a0_10 a0_11 l0_12 80 20).bind fun t144 => (some (decide (t144 < 0)))) = some r := h
  clear h
  replace H := Option.bind_eq_some_iff.mp H
  obtain ⟨t144, A20, H⟩ := H
  replace H : (some (decide (t144 < 0))) = some r := H
  have A2 := Aside0.mk A20
  clear A20
  obtain rfl := Option.some.inj H
  go_enter Try.func15, Try.ntmps15
  go_wp2_with (first | ((with_reducible refine gate_dst (N := 1) rfl ?_); refine box_event ?hg (N := 1) ?hd (cs := #[.int .i64 a0_0, .slice A0_1 l0_1.length c0_1, .int .i64 a0_2, .bool a0_3, .slice A0_4 l0_4.length c0_4, .slice A0_5 l0_5.length c0_5, .int .i64 a0_6, .int .i64 a0_7, .string a0_8, .slice A0_9 l0_9.length c0_9, .int .i64 a0_10, .int .i64 a0_11, .slice A0_12 l0_12.length c0_12]) (t := 42) ?hr ?_; (case hd => rfl); (case hg => rfl); (case hr => (go_simp; done)); intro gb143 hg w3 hbox hb; have n0_ := Aside0.mk (below_step HB.out hb); have n1_ := Aside0.mk (hbox); have n2_ := Aside0.mk ((by rw [hg]; exact (below_size HB.out) : w.heap.size ≤ gb143)); have n3_ := Aside0.mk ((by rw [hg]; exact (below_size HB.out) : w.heap.size ≤ gb143)); clear HB; have HB := n0_; have BK143 := n1_; have GW143 := n2_; have GE143 := n3_; clear n0_ n1_ n2_ n3_; clear hb hbox hg; have hcz4_0 : w3.cell? ⟨gb143, 0, none⟩ = some (.int .i64 a0_0) := (blk_cell BK143.out 0).trans rfl; have hcz4_1 : w3.cell? ⟨gb143, 1, none⟩ = some (.slice A0_1 l0_1.length c0_1) := (blk_cell BK143.out 1).trans rfl; have hcz4_2 : w3.cell? ⟨gb143, 2, none⟩ = some (.int .i64 a0_2) := (blk_cell BK143.out 2).trans rfl; have hcz4_3 : w3.cell? ⟨gb143, 3, none⟩ = some (.bool a0_3) := (blk_cell BK143.out 3).trans rfl; have hcz4_4 : w3.cell? ⟨gb143, 4, none⟩ = some (.slice A0_4 l0_4.length c0_4) := (blk_cell BK143.out 4).trans rfl; have hcz4_5 : w3.cell? ⟨gb143, 5, none⟩ = some (.slice A0_5 l0_5.length c0_5) := (blk_cell BK143.out 5).trans rfl; have hcz4_6 : w3.cell? ⟨gb143, 6, none⟩ = some (.int .i64 a0_6) := (blk_cell BK143.out 6).trans rfl; have hcz4_7 : w3.cell? ⟨gb143, 7, none⟩ = some (.int .i64 a0_7) := (blk_cell BK143.out 7).trans rfl; have hcz4_8 : w3.cell? ⟨gb143, 8, none⟩ = some (.string a0_8) := (blk_cell BK143.out 8).trans rfl; have hcz4_9 : w3.cell? ⟨gb143, 9, none⟩ = some (.slice A0_9 l0_9.length c0_9) := (blk_cell BK143.out 9).trans rfl; have hcz4_10 : w3.cell? ⟨gb143, 10, none⟩ = some (.int .i64 a0_10) := (blk_cell BK143.out 10).trans rfl; have hcz4_11 : w3.cell? ⟨gb143, 11, none⟩ = some (.int .i64 a0_11) := (blk_cell BK143.out 11).trans rfl; have hcz4_12 : w3.cell? ⟨gb143, 12, none⟩ = some (.slice A0_12 l0_12.length c0_12) := (blk_cell BK143.out 12).trans rfl; have hfz4_0 := blk_frozen BK143.out 0; have hfz4_1 := blk_frozen BK143.out 1; have hfz4_2 := blk_frozen BK143.out 2; have hfz4_3 := blk_frozen BK143.out 3; have hfz4_4 := blk_frozen BK143.out 4; have hfz4_5 := blk_frozen BK143.out 5; have hfz4_6 := blk_frozen BK143.out 6; have hfz4_7 := blk_frozen BK143.out 7; have hfz4_8 := blk_frozen BK143.out 8; have hfz4_9 := blk_frozen BK143.out 9; have hfz4_10 := blk_frozen BK143.out 10; have hfz4_11 := blk_frozen BK143.out 11; have hfz4_12 := blk_frozen BK143.out 12) | ((with_reducible refine gate_callee (f := 38) rfl ?_); refine goesL_ (some 4) rfl rfl Try.func38 (by kernel_rfl) rfl #[.agg #[.int .i64 a0_0, .slice A0_1 l0_1.length c0_1, .int .i64 a0_2, .bool a0_3, .slice A0_4 l0_4.length c0_4, .slice A0_5 l0_5.length c0_5, .int .i64 a0_6, .int .i64 a0_7, .string a0_8, .slice A0_9 l0_9.length c0_9, .int .i64 a0_10, .int .i64 a0_11, .slice A0_12 l0_12.length c0_12], .int .i64 80, .int .i64 20] rfl (by (try simp only [List.map_toArray, List.map_cons, List.map_nil]); (rfl)) ?_; (with_reducible refine (notaryref35_Count.calls k a0_0 _ _ l0_1 a0_2 a0_3 _ _ l0_4 _ _ l0_5 a0_6 a0_7 a0_8 _ _ l0_9 a0_10 a0_11 _ _ l0_12 80 20 t144 _ ?side1 ?side2 ?side3 ?side4 ?side5 ?side6 ?side7 ?side8 ?side9 ?side10 A2.out).mono ?_); (case side1 => exact Kd.C_below HR0_1.out HB.out); (case side2 => exact HC0_1.out); (case side3 => exact Kd.C_below HR0_4.out HB.out); (case side4 => exact HC0_4.out); (case side5 => exact Kd.C_below HR0_5.out HB.out); (case side6 => exact HC0_5.out); (case side7 => exact Kd.C_below HR0_9.out HB.out); (case side8 => exact HC0_9.out); (case side9 => exact Kd.C_below HR0_12.out HB.out); (case side10 => exact HC0_12.out); rintro e w5 ⟨rfl, hb⟩; refine ⟨_, rfl, ?_⟩; have n0_ := Aside0.mk (blk_below (g := gb143) (o := .cells #[.int .i64 a0_0, .slice A0_1 l0_1.length c0_1, .int .i64 a0_2, .bool a0_3, .slice A0_4 l0_4.length c0_4, .slice A0_5 l0_5.length c0_5, .int .i64 a0_6, .int .i64 a0_7, .string a0_8, .slice A0_9 l0_9.length c0_9, .int .i64 a0_10, .int .i64 a0_11, .slice A0_12 l0_12.length c0_12] 42 (0, 0)) (by exact BK143.out) hb); have n1_ := Aside0.mk (below_step HB.out hb); clear BK143; clear HB; have BK143 := n0_; have HB := n1_; clear n0_ n1_; (try clear hb); (skip)))
  go_ret
  exact ⟨by (rfl), HB.out⟩

/-! ### code_bare: function 88 (given) -/
def code_bare.f (a0_0 : Int) (a0_1 : Bool) (l0_2 : List Int) (l0_3 : List Int) (a0_4 : Int) (a0_5 : Int) (a0_6 : ByteArray) (l0_7 : List (S25)) (a0_8 : Int) (a0_9 : Int) : Option (Bool) := if a0_0 = 0 then (if a0_1 = true then (some false) else (if (l0_2.length : Int) = 0 then (if (l0_3.length : Int) = 0 then (if a0_4 = 0 then (if a0_5 = 0 then (if a0_6.toList = ([] : List UInt8) then (if (l0_7.length : Int) = 0 then (if a0_8 = 0 then (some (a0_9 == 0)) else (some false)) else (some false)) else (some false)) else (some false)) else (some false)) else (some false)) else (some false))) else (some false)
set_option maxHeartbeats 8000000 in
set_option maxRecDepth 100000 in
theorem code_bare.calls (a0_0 : Int) (a0_1 : Bool) (A0_2 : Option Addr) (c0_2 : Nat) (l0_2 : List Int) (A0_3 : Option Addr) (c0_3 : Nat) (l0_3 : List Int) (a0_4 : Int) (a0_5 : Int) (a0_6 : ByteArray) (A0_7 : Option Addr) (c0_7 : Nat) (l0_7 : List (S25)) (a0_8 : Int) (a0_9 : Int) (r : Bool) (w : World) (hr0_2 : Kd.C (Kd.int .i64) w A0_2 l0_2.length l0_2) (hc0_2 : l0_2.length ≤ c0_2) (hr0_3 : Kd.C (Kd.int .i64) w A0_3 l0_3.length l0_3) (hc0_3 : l0_3.length ≤ c0_3) (hr0_7 : Kd.C k25 w A0_7 l0_7.length l0_7) (hc0_7 : l0_7.length ≤ c0_7) (h : code_bare.f a0_0 a0_1 l0_2 l0_3 a0_4 a0_5 a0_6 l0_7 a0_8 a0_9 = some r) :
    Calls Try.prog 88 #[.agg #[.int .i64 a0_0, .bool a0_1, .slice A0_2 l0_2.length c0_2, .slice A0_3 l0_3.length c0_3, .int .i64 a0_4, .int .i64 a0_5, .string a0_6, .slice A0_7 l0_7.length c0_7, .int .i64 a0_8, .int .i64 a0_9]] w fun e w' => e = .returned (.bool r) ∧ Below w.heap.size w w' := by
  have hu := Try.underlying39
  have hu2 := Try.underlying25
  have H := Aside0.mk h
  clear h hr0_2 hc0_2 hr0_3 hc0_3 hr0_7 hc0_7
  go_enter Try.func88, Try.ntmps88
  go_upto_region 2 with (fail)
  obtain ⟨W, hW⟩ : ∃ W : World, W = (w.alloc (.cells #[.int .i64 a0_0, .bool a0_1, .slice A0_2 l0_2.length c0_2, .slice A0_3 l0_3.length c0_3, .int .i64 a0_4, .int .i64 a0_5, .string a0_6, .slice A0_7 l0_7.length c0_7, .int .i64 a0_8, .int .i64 a0_9] 39)).alloc (.cells #[.int .i64 a0_4, .int .i64 a0_5, .string a0_6, .slice A0_7 l0_7.length c0_7, .int .i64 a0_8, .int .i64 a0_9] 25) := ⟨_, rfl⟩
  rw [← hW]
  have hb : Below w.heap.size w W := by rw [hW]; exact below_alloc (below_alloc (Below.refl _ _) _) _
  have h0 : W.heap[w.heap.size]? = some (.cells #[.int .i64 a0_0, .bool a0_1, .slice A0_2 l0_2.length c0_2, .slice A0_3 l0_3.length c0_3, .int .i64 a0_4, .int .i64 a0_5, .string a0_6, .slice A0_7 l0_7.length c0_7, .int .i64 a0_8, .int .i64 a0_9] 39 (0, 0)) := by rw [hW]; exact blk_alloc (blk_new _ _) _
  have h1 : W.heap[w.heap.size + 1]? = some (.cells #[.int .i64 a0_4, .int .i64 a0_5, .string a0_6, .slice A0_7 l0_7.length c0_7, .int .i64 a0_8, .int .i64 a0_9] 25 (0, 0)) := by
    rw [hW]
    have := blk_new (w.alloc (.cells #[.int .i64 a0_0, .bool a0_1, .slice A0_2 l0_2.length c0_2, .slice A0_3 l0_3.length c0_3, .int .i64 a0_4, .int .i64 a0_5, .string a0_6, .slice A0_7 l0_7.length c0_7, .int .i64 a0_8, .int .i64 a0_9] 39)) (.cells #[.int .i64 a0_4, .int .i64 a0_5, .string a0_6, .slice A0_7 l0_7.length c0_7, .int .i64 a0_8, .int .i64 a0_9] 25)
    simpa using this
  have HB := Aside0.mk hb
  have x0 : W.cell? ⟨w.heap.size, 0, none⟩ = some (.int .i64 a0_0) := (blk_cell h0 0).trans rfl
  have x1 : W.cell? ⟨w.heap.size, 1, none⟩ = some (.bool a0_1) := (blk_cell h0 1).trans rfl
  have x2 : W.cell? ⟨w.heap.size, 2, none⟩ = some (.slice A0_2 l0_2.length c0_2) := (blk_cell h0 2).trans rfl
  have x3 : W.cell? ⟨w.heap.size, 3, none⟩ = some (.slice A0_3 l0_3.length c0_3) := (blk_cell h0 3).trans rfl
  have y0 : W.cell? ⟨w.heap.size + 1, 0, none⟩ = some (.int .i64 a0_4) := (blk_cell h1 0).trans rfl
  have y1 : W.cell? ⟨w.heap.size + 1, 1, none⟩ = some (.int .i64 a0_5) := (blk_cell h1 1).trans rfl
  have y2 : W.cell? ⟨w.heap.size + 1, 2, none⟩ = some (.string a0_6) := (blk_cell h1 2).trans rfl
  have y3 : W.cell? ⟨w.heap.size + 1, 3, none⟩ = some (.slice A0_7 l0_7.length c0_7) := (blk_cell h1 3).trans rfl
  have y4 : W.cell? ⟨w.heap.size + 1, 4, none⟩ = some (.int .i64 a0_8) := (blk_cell h1 4).trans rfl
  have y5 : W.cell? ⟨w.heap.size + 1, 5, none⟩ = some (.int .i64 a0_9) := (blk_cell h1 5).trans rfl
  clear hW hb h0 h1
  have h := H.out
  unfold code_bare.f at h
  clear H
  by_cases c0 : a0_0 = 0
  case neg =>
    rw [if_neg c0] at h
    have b0 : (a0_0 == 0) = false := beq_eq_false_iff_ne.mpr c0
    clear c0
    obtain rfl := Option.some.inj h
    clear h
    go_wp2
    go_ret
    exact ⟨rfl, HB.out⟩
  rw [if_pos c0] at h
  have b0 : (a0_0 == 0) = true := beq_iff_eq.mpr c0
  clear c0
  by_cases c1 : a0_1 = true
  case pos =>
    rw [if_pos c1] at h
    subst c1
    obtain rfl := Option.some.inj h
    clear h
    go_wp2
    go_ret
    exact ⟨rfl, HB.out⟩
  rw [if_neg c1] at h
  obtain rfl : a0_1 = false := by simpa using c1
  clear c1
  by_cases c2 : (l0_2.length : Int) = 0
  case neg =>
    rw [if_neg c2] at h
    have b2 : ((l0_2.length : Int) == 0) = false := beq_eq_false_iff_ne.mpr c2
    clear c2
    obtain rfl := Option.some.inj h
    clear h
    go_wp2
    go_ret
    exact ⟨rfl, HB.out⟩
  rw [if_pos c2] at h
  have b2 : ((l0_2.length : Int) == 0) = true := beq_iff_eq.mpr c2
  clear c2
  by_cases c3 : (l0_3.length : Int) = 0
  case neg =>
    rw [if_neg c3] at h
    have b3 : ((l0_3.length : Int) == 0) = false := beq_eq_false_iff_ne.mpr c3
    clear c3
    obtain rfl := Option.some.inj h
    clear h
    go_wp2
    go_ret
    exact ⟨rfl, HB.out⟩
  rw [if_pos c3] at h
  have b3 : ((l0_3.length : Int) == 0) = true := beq_iff_eq.mpr c3
  clear c3
  by_cases c4 : a0_4 = 0
  case neg =>
    rw [if_neg c4] at h
    have b4 : (a0_4 == 0) = false := beq_eq_false_iff_ne.mpr c4
    clear c4
    obtain rfl := Option.some.inj h
    clear h
    go_wp2
    go_ret
    exact ⟨rfl, HB.out⟩
  rw [if_pos c4] at h
  have b4 : (a0_4 == 0) = true := beq_iff_eq.mpr c4
  clear c4
  by_cases c5 : a0_5 = 0
  case neg =>
    rw [if_neg c5] at h
    have b5 : (a0_5 == 0) = false := beq_eq_false_iff_ne.mpr c5
    clear c5
    obtain rfl := Option.some.inj h
    clear h
    go_wp2
    go_ret
    exact ⟨rfl, HB.out⟩
  rw [if_pos c5] at h
  have b5 : (a0_5 == 0) = true := beq_iff_eq.mpr c5
  clear c5
  by_cases c6 : a0_6.toList = ([] : List UInt8)
  case neg =>
    rw [if_neg c6] at h
    have b6 : (a0_6.toList == ([] : List UInt8)) = false := beq_eq_false_iff_ne.mpr c6
    clear c6
    obtain rfl := Option.some.inj h
    clear h
    go_wp2
    go_ret
    exact ⟨rfl, HB.out⟩
  rw [if_pos c6] at h
  have b6 : (a0_6.toList == ([] : List UInt8)) = true := beq_iff_eq.mpr c6
  clear c6
  by_cases c7 : (l0_7.length : Int) = 0
  case neg =>
    rw [if_neg c7] at h
    have b7 : ((l0_7.length : Int) == 0) = false := beq_eq_false_iff_ne.mpr c7
    clear c7
    obtain rfl := Option.some.inj h
    clear h
    go_wp2
    go_ret
    exact ⟨rfl, HB.out⟩
  rw [if_pos c7] at h
  have b7 : ((l0_7.length : Int) == 0) = true := beq_iff_eq.mpr c7
  clear c7
  by_cases c8 : a0_8 = 0
  case neg =>
    rw [if_neg c8] at h
    have b8 : (a0_8 == 0) = false := beq_eq_false_iff_ne.mpr c8
    clear c8
    obtain rfl := Option.some.inj h
    clear h
    go_wp2
    go_ret
    exact ⟨rfl, HB.out⟩
  rw [if_pos c8] at h
  have b8 : (a0_8 == 0) = true := beq_iff_eq.mpr c8
  clear c8
  obtain rfl := Option.some.inj h
  clear h
  go_wp2
  go_ret
  exact ⟨rfl, HB.out⟩

/-! ### code_fine: function 75 (given) -/
def code_fine.f (a0_0 : Int) (l0_1 : List Int) (a0_2 : Int) (a0_3 : Bool) (l0_4 : List Int) (l0_5 : List Int) (a0_6 : Int) (a0_7 : Int) (a0_8 : ByteArray) (l0_9 : List (S25)) (a0_10 : Int) (a0_11 : Int) (l0_12 : List (S42)) : Option (Bool) := if a0_0 = 1 then (if (l0_1.length : Int) = 0 then (some ((l0_12.length : Int) == 0)) else (some false)) else ((code_bare.f a0_2 a0_3 l0_4 l0_5 a0_6 a0_7 a0_8 l0_9 a0_10 a0_11).bind fun t148 => (if t148 = true then (if a0_0 = 3 then (some true) else (some ((l0_1.length : Int) == 0))) else (some false)))
set_option maxHeartbeats 8000000 in
set_option maxRecDepth 100000 in
theorem code_fine.calls (a0_0 : Int) (A0_1 : Option Addr) (c0_1 : Nat) (l0_1 : List Int) (a0_2 : Int) (a0_3 : Bool) (A0_4 : Option Addr) (c0_4 : Nat) (l0_4 : List Int) (A0_5 : Option Addr) (c0_5 : Nat) (l0_5 : List Int) (a0_6 : Int) (a0_7 : Int) (a0_8 : ByteArray) (A0_9 : Option Addr) (c0_9 : Nat) (l0_9 : List (S25)) (a0_10 : Int) (a0_11 : Int) (A0_12 : Option Addr) (c0_12 : Nat) (l0_12 : List (S42)) (r : Bool) (w : World) (hr0_1 : Kd.C (Kd.int .i64) w A0_1 l0_1.length l0_1) (hc0_1 : l0_1.length ≤ c0_1) (hr0_4 : Kd.C (Kd.int .i64) w A0_4 l0_4.length l0_4) (hc0_4 : l0_4.length ≤ c0_4) (hr0_5 : Kd.C (Kd.int .i64) w A0_5 l0_5.length l0_5) (hc0_5 : l0_5.length ≤ c0_5) (hr0_9 : Kd.C k25 w A0_9 l0_9.length l0_9) (hc0_9 : l0_9.length ≤ c0_9) (hr0_12 : Kd.C k42 w A0_12 l0_12.length l0_12) (hc0_12 : l0_12.length ≤ c0_12) (h : code_fine.f a0_0 l0_1 a0_2 a0_3 l0_4 l0_5 a0_6 a0_7 a0_8 l0_9 a0_10 a0_11 l0_12 = some r) :
    Calls Try.prog 75 #[.agg #[.int .i64 a0_0, .slice A0_1 l0_1.length c0_1, .int .i64 a0_2, .bool a0_3, .slice A0_4 l0_4.length c0_4, .slice A0_5 l0_5.length c0_5, .int .i64 a0_6, .int .i64 a0_7, .string a0_8, .slice A0_9 l0_9.length c0_9, .int .i64 a0_10, .int .i64 a0_11, .slice A0_12 l0_12.length c0_12]] w fun e w' => e = .returned (.bool r) ∧ Below w.heap.size w w' := by
  have hu := Try.underlying42
  have hu2 := Try.underlying39
  obtain ⟨W, hW⟩ : ∃ W : World, W = w.alloc (.cells #[.int .i64 a0_0, .slice A0_1 l0_1.length c0_1, .int .i64 a0_2, .bool a0_3, .slice A0_4 l0_4.length c0_4, .slice A0_5 l0_5.length c0_5, .int .i64 a0_6, .int .i64 a0_7, .string a0_8, .slice A0_9 l0_9.length c0_9, .int .i64 a0_10, .int .i64 a0_11, .slice A0_12 l0_12.length c0_12] 42) := ⟨_, rfl⟩
  have hb : Below w.heap.size w W := by rw [hW]; exact below_alloc (Below.refl _ _) _
  have h0 : W.heap[w.heap.size]? = some (.cells #[.int .i64 a0_0, .slice A0_1 l0_1.length c0_1, .int .i64 a0_2, .bool a0_3, .slice A0_4 l0_4.length c0_4, .slice A0_5 l0_5.length c0_5, .int .i64 a0_6, .int .i64 a0_7, .string a0_8, .slice A0_9 l0_9.length c0_9, .int .i64 a0_10, .int .i64 a0_11, .slice A0_12 l0_12.length c0_12] 42 (0, 0)) := by rw [hW]; exact blk_new _ _
  have HB := Aside0.mk hb
  have H := Aside0.mk h
  have H0 := Aside0.mk h0
  have G4 := Aside0.mk (Kd.C_below hr0_4 hb)
  have G5 := Aside0.mk (Kd.C_below hr0_5 hb)
  have G9 := Aside0.mk (Kd.C_below hr0_9 hb)
  have L4 := Aside0.mk hc0_4
  have L5 := Aside0.mk hc0_5
  have L9 := Aside0.mk hc0_9
  have x0 : W.cell? ⟨w.heap.size, 0, none⟩ = some (.int .i64 a0_0) := (blk_cell h0 0).trans rfl
  have x1 : W.cell? ⟨w.heap.size, 1, none⟩ = some (.slice A0_1 l0_1.length c0_1) := (blk_cell h0 1).trans rfl
  have x2 : W.cell? ⟨w.heap.size, 2, none⟩ = some (.int .i64 a0_2) := (blk_cell h0 2).trans rfl
  have x3 : W.cell? ⟨w.heap.size, 3, none⟩ = some (.bool a0_3) := (blk_cell h0 3).trans rfl
  have x4 : W.cell? ⟨w.heap.size, 4, none⟩ = some (.slice A0_4 l0_4.length c0_4) := (blk_cell h0 4).trans rfl
  have x5 : W.cell? ⟨w.heap.size, 5, none⟩ = some (.slice A0_5 l0_5.length c0_5) := (blk_cell h0 5).trans rfl
  have x6 : W.cell? ⟨w.heap.size, 6, none⟩ = some (.int .i64 a0_6) := (blk_cell h0 6).trans rfl
  have x7 : W.cell? ⟨w.heap.size, 7, none⟩ = some (.int .i64 a0_7) := (blk_cell h0 7).trans rfl
  have x8 : W.cell? ⟨w.heap.size, 8, none⟩ = some (.string a0_8) := (blk_cell h0 8).trans rfl
  have x9 : W.cell? ⟨w.heap.size, 9, none⟩ = some (.slice A0_9 l0_9.length c0_9) := (blk_cell h0 9).trans rfl
  have x10 : W.cell? ⟨w.heap.size, 10, none⟩ = some (.int .i64 a0_10) := (blk_cell h0 10).trans rfl
  have x11 : W.cell? ⟨w.heap.size, 11, none⟩ = some (.int .i64 a0_11) := (blk_cell h0 11).trans rfl
  have x12 : W.cell? ⟨w.heap.size, 12, none⟩ = some (.slice A0_12 l0_12.length c0_12) := (blk_cell h0 12).trans rfl
  clear h hr0_1 hc0_1 hr0_4 hc0_4 hr0_5 hc0_5 hr0_9 hc0_9 hr0_12 hc0_12 hb h0
  go_enter Try.func75, Try.ntmps75
  go_upto_region 1 with (fail)
  rw [← hW]
  clear hW
  have h := H.out
  unfold code_fine.f at h
  clear H
  by_cases c0 : a0_0 = 1
  · rw [if_pos c0] at h
    have b0 : (a0_0 == 1) = true := beq_iff_eq.mpr c0
    clear c0
    by_cases c1 : (l0_1.length : Int) = 0
    · rw [if_pos c1] at h
      have b1 : ((l0_1.length : Int) == 0) = true := beq_iff_eq.mpr c1
      clear c1
      obtain rfl := Option.some.inj h
      clear h
      go_wp2
      go_ret
      exact ⟨rfl, HB.out⟩
    · rw [if_neg c1] at h
      have b1 : ((l0_1.length : Int) == 0) = false := beq_eq_false_iff_ne.mpr c1
      clear c1
      obtain rfl := Option.some.inj h
      clear h
      go_wp2
      go_ret
      exact ⟨rfl, HB.out⟩
  · rw [if_neg c0] at h
    have b0 : (a0_0 == 1) = false := beq_eq_false_iff_ne.mpr c0
    clear c0
    obtain ⟨t, ht, h⟩ := Option.bind_eq_some_iff.mp h
    have HT := Aside0.mk ht
    clear ht
    go_upto_region 3 with (fail)
    obtain ⟨b1, hb1⟩ : ∃ b1, b1 = (a0_0 == 3) := ⟨_, rfl⟩
    have h2 : r = (t && (b1 || ((l0_1.length : Int) == 0))) := by
      cases t with
      | false => simpa using h.symm
      | true =>
        by_cases c3 : a0_0 = 3
        · simp [c3] at h hb1; rw [hb1, h]; rfl
        · have : (a0_0 == 3) = false := beq_eq_false_iff_ne.mpr c3
          rw [this] at hb1
          simp [c3] at h
          rw [hb1, ← h]; simp
    have H2 := Aside0.mk h2
    clear h h2
    have hb1' := hb1.symm
    clear hb1
    cases t with
    | false =>
      go_wp2_with (((go_at_call 88; (with_reducible refine (code_bare.calls a0_2 a0_3 A0_4 c0_4 l0_4 A0_5 c0_5 l0_5 a0_6 a0_7 a0_8 A0_9 c0_9 l0_9 a0_10 a0_11 _ _ G4.out L4.out G5.out L5.out G9.out L9.out HT.out).mono ?_); rintro y w2 ⟨rfl, hz⟩; (have HB2 := Aside0.mk (HB.out.trans (hz.mono (below_size HB.out)))); (have h2 := blk_below H0.out hz); (have z0 : w2.cell? ⟨w.heap.size, 0, none⟩ = some (.int .i64 a0_0) := (blk_cell h2 0).trans rfl); (have z1 : w2.cell? ⟨w.heap.size, 1, none⟩ = some (.slice A0_1 l0_1.length c0_1) := (blk_cell h2 1).trans rfl); clear hz h2)))
      go_ret
      exact ⟨by rw [H2.out]; simp, HB2.out⟩
    | true =>
      cases b1 with
      | true =>
        go_wp2_with (((go_at_call 88; (with_reducible refine (code_bare.calls a0_2 a0_3 A0_4 c0_4 l0_4 A0_5 c0_5 l0_5 a0_6 a0_7 a0_8 A0_9 c0_9 l0_9 a0_10 a0_11 _ _ G4.out L4.out G5.out L5.out G9.out L9.out HT.out).mono ?_); rintro y w2 ⟨rfl, hz⟩; (have HB2 := Aside0.mk (HB.out.trans (hz.mono (below_size HB.out)))); (have h2 := blk_below H0.out hz); (have z0 : w2.cell? ⟨w.heap.size, 0, none⟩ = some (.int .i64 a0_0) := (blk_cell h2 0).trans rfl); (have z1 : w2.cell? ⟨w.heap.size, 1, none⟩ = some (.slice A0_1 l0_1.length c0_1) := (blk_cell h2 1).trans rfl); clear hz h2)))
        go_ret
        exact ⟨by rw [H2.out]; simp, HB2.out⟩
      | false =>
        go_wp2_with (((go_at_call 88; (with_reducible refine (code_bare.calls a0_2 a0_3 A0_4 c0_4 l0_4 A0_5 c0_5 l0_5 a0_6 a0_7 a0_8 A0_9 c0_9 l0_9 a0_10 a0_11 _ _ G4.out L4.out G5.out L5.out G9.out L9.out HT.out).mono ?_); rintro y w2 ⟨rfl, hz⟩; (have HB2 := Aside0.mk (HB.out.trans (hz.mono (below_size HB.out)))); (have h2 := blk_below H0.out hz); (have z0 : w2.cell? ⟨w.heap.size, 0, none⟩ = some (.int .i64 a0_0) := (blk_cell h2 0).trans rfl); (have z1 : w2.cell? ⟨w.heap.size, 1, none⟩ = some (.slice A0_1 l0_1.length c0_1) := (blk_cell h2 1).trans rfl); clear hz h2)))
        go_ret
        exact ⟨by rw [H2.out]; simp, HB2.out⟩

end Go.Proofs.Ytiamcmjdoobaeaa.PCd
