-- SLIM: a printed text of which the unused ways are cut off
-- PRINTED by print.py (a twelfth state) out of the translation. Not trusted: Lean checks it.
import Derived.Test.YtogjnipojakfjaaPJrx0
namespace Go.Proofs.Ytogjnipojakfjaa.PJr
open Go.RowKit Go.Proofs.YtogjnipojakfjaaW.PrintWords Go.Proofs.YtogjnipojakfjaaW.PrintLast Go.Proofs.YtogjnipojakfjaaW.PrintMore
attribute [local go_sem] max2_int min2_int max_two min_two max_three min_three max_four min_four   -- for this text's walks alone
set_option linter.unusedVariables false
set_option linter.unusedSimpArgs false

/-! ### notaryref46_Read: function 43 -/
mutual
def notaryref46_Read.j0 : Nat → List Int → Int → Bool → Int → Option (Int × List Int × List Int × Int × Int)
  | 0, _, _, _, _ => none
  | k + 1, x0, x1, x20, x150000 => if x20 = true then (some (x150000, ([] : List Int), ([] : List Int), 0, 13)) else (if (wrap64 ((x0.length : Int) - x1)) < 4 then (some (x150000, ([] : List Int), ([] : List Int), 0, 1)) else (notaryref46_Read.l0 k x0 x1 0 0 x150000))
def notaryref46_Read.l0 : Nat → List Int → Int → Int → Int → Int → Option (Int × List Int × List Int × Int × Int)
  | 0, _, _, _, _, _ => none
  | k + 1, x0, x1, x9, x10, x150000 => if x10 < 4 then (if 0 ≤ (wrap64 (x1 + x10)) then (if (wrap64 (x1 + x10)) < (x0.length : Int) then (notaryref46_Read.l0 k x0 x1 (wrap64 ((wrap64 (x9 * 256)) + (wrap64 (rd x0 (wrap64 (x1 + x10)))))) (wrap64 (x10 + 1)) x150000) else (none)) else (none)) else (if x9 = 0 then (some (x150000, ([] : List Int), ([] : List Int), 0, 2)) else (if x9 > 1025 then (some (x150000, ([] : List Int), ([] : List Int), 0, 3)) else (if (wrap64 ((x0.length : Int) - x1)) < (wrap64 ((wrap64 (4 + x9)) + 32)) then (some (x150000, ([] : List Int), ([] : List Int), 0, 1)) else (if 0 ≤ (wrap64 (x1 + 4)) then (if (wrap64 (x1 + 4)) < (x0.length : Int) then (if (rd x0 (wrap64 (x1 + 4))) < 1 then (some (x150000, ([] : List Int), ([] : List Int), 0, 23)) else (if (rd x0 (wrap64 (x1 + 4))) > 3 then (some (x150000, ([] : List Int), ([] : List Int), 0, 23)) else ((some (([] : List Int) : List Int)).bind fun y175 => (if 0 ≤ (wrap64 (x1 + 5)) then (if (wrap64 (x1 + 5)) ≤ (wrap64 ((wrap64 (x1 + 4)) + x9)) then (if (wrap64 ((wrap64 (x1 + 4)) + x9)) ≤ (x0.length : Int) then (if y175.length + ((x0.take ((wrap64 ((wrap64 (x1 + 4)) + x9)) : Int).toNat).drop ((wrap64 (x1 + 5)) : Int).toNat).length < 140737488355328 then ((some (([] : List Int) : List Int)).bind fun y183 => (if 0 ≤ (wrap64 ((wrap64 (x1 + 4)) + x9)) then (if (wrap64 ((wrap64 (x1 + 4)) + x9)) ≤ (wrap64 ((wrap64 (x1 + 36)) + x9)) then (if (wrap64 ((wrap64 (x1 + 36)) + x9)) ≤ (x0.length : Int) then (if y183.length + ((x0.take ((wrap64 ((wrap64 (x1 + 36)) + x9)) : Int).toNat).drop ((wrap64 ((wrap64 (x1 + 4)) + x9)) : Int).toNat).length < 140737488355328 then (some (wrap64 (rd x0 (wrap64 (x1 + 4))), (y175 ++ ((x0.take ((wrap64 ((wrap64 (x1 + 4)) + x9)) : Int).toNat).drop ((wrap64 (x1 + 5)) : Int).toNat)), (y183 ++ ((x0.take ((wrap64 ((wrap64 (x1 + 36)) + x9)) : Int).toNat).drop ((wrap64 ((wrap64 (x1 + 4)) + x9)) : Int).toNat)), wrap64 ((wrap64 (x1 + 36)) + x9), 0)) else (none)) else (none)) else (none)) else (none))) else (none)) else (none)) else (none)) else (none))))) else (none)) else (none)))))
end
def notaryref46_Read.f (k : Nat) (l0 : List Int) (a1 : Int) : Option (Int × List Int × List Int × Int × Int) := if a1 < 0 then (notaryref46_Read.j0 k l0 a1 true 0) else (notaryref46_Read.j0 k l0 a1 (decide (a1 > (l0.length : Int))) 0)
theorem notaryref46_Read.mono_l : ∀ k, (∀ y0 y1 y2 y3, LeO (notaryref46_Read.j0 k y0 y1 y2 y3) (notaryref46_Read.j0 (k + 1) y0 y1 y2 y3)) ∧ (∀ y0 y1 y2 y3 y4, LeO (notaryref46_Read.l0 k y0 y1 y2 y3 y4) (notaryref46_Read.l0 (k + 1) y0 y1 y2 y3 y4))
  | 0 => ⟨fun _ _ _ _ r h => by simp [notaryref46_Read.j0] at h, fun _ _ _ _ _ r h => by simp [notaryref46_Read.l0] at h⟩
  | k + 1 => by
    obtain ⟨ih0, ih1⟩ := notaryref46_Read.mono_l k
    refine ⟨?_, ?_⟩
    · intro y0 y1 y2 y3
      unfold notaryref46_Read.j0
      repeat' first | (with_reducible exact ih1 _ _ _ _ _) | (with_reducible exact LeO.refl _) | (with_reducible refine LeO.ite ?_ ?_)
    · intro y0 y1 y2 y3 y4
      unfold notaryref46_Read.l0
      repeat' first | (with_reducible exact ih1 _ _ _ _ _) | (with_reducible exact LeO.refl _) | (with_reducible refine LeO.ite ?_ ?_)
theorem notaryref46_Read.mono : ∀ a0 a1 k, LeO (notaryref46_Read.f k a0 a1) (notaryref46_Read.f (k + 1) a0 a1) := by
  intro a0 a1 k
  obtain ⟨ih0, ih1⟩ := notaryref46_Read.mono_l k
  unfold notaryref46_Read.f
  repeat' first | (with_reducible exact ih0 _ _ _ _) | (with_reducible refine LeO.ite ?_ ?_)
def notaryref46_Read.T19 : Bool × List (List Nat × List Nat) := (true, [([], []), ([], []), ([1], [1]), ([0, 2], [0, 2]), ([3], [3]), ([4], [4]), ([], []), ([], []), ([], []), ([8], [8]), ([], []), ([10], [10]), ([], []), ([11, 12], [11, 12]), ([7, 9, 13], [7, 9, 13]), ([6, 14], [6, 14]), ([5, 15], [5, 15]), ([], []), ([17, 16, 15, 0, 1, 2, 3, 4, 5, 6, 7, 8, 9, 10, 11, 12, 13, 14, 15, 16, 17], [16, 17])])
def notaryref46_Read.B19 : List Nat := [0, 0, 2, 7, 15, 31, 0, 0, 0, 256, 0, 1024, 0, 7168, 16256, 32704, 65535, 0, 262143]
theorem notaryref46_Read.tab19 : rtab .any (opsOf Try.f43 19) = notaryref46_Read.T19 := by kernel_rfl
theorem notaryref46_Read.bits19 : waitsOk notaryref46_Read.T19.2 notaryref46_Read.B19 = true := by kernel_rfl
def notaryref46_Read.T20 : Bool × List (List Nat × List Nat) := (true, [([], []), ([], []), ([], []), ([], []), ([3], [3]), ([], []), ([4, 5], [4, 5]), ([], []), ([7], [7]), ([], []), ([8, 9], [8, 9]), ([2, 6, 10], [2, 6, 10]), ([1, 11], [1, 11]), ([], []), ([13], [13]), ([], []), ([14, 15], [14, 15]), ([0, 12, 0], [0]), ([12, 17, 0, 1, 2, 3, 4, 5, 6, 7, 8, 9, 10, 11, 12, 17], [12]), ([16, 18, 0, 1, 2, 3, 4, 5, 6, 7, 8, 9, 10, 11, 12, 13, 14, 15, 16, 17, 18], [16]), ([19, 0, 1, 2, 3, 4, 5, 6, 7, 8, 9, 10, 11, 12, 13, 14, 15, 16, 17, 18, 19], [])])
def notaryref46_Read.B20 : List Nat := [0, 0, 0, 0, 8, 0, 56, 0, 128, 0, 896, 2044, 4094, 0, 8192, 0, 57344, 8191, 139263, 524287, 1048575]
theorem notaryref46_Read.tab20 : rtab .any (opsOf Try.f43 20) = notaryref46_Read.T20 := by kernel_rfl
theorem notaryref46_Read.bits20 : waitsOk notaryref46_Read.T20.2 notaryref46_Read.B20 = true := by kernel_rfl
set_option maxHeartbeats 8000000 in
set_option maxRecDepth 100000 in
theorem notaryref46_Read.calls (k : Nat) (A0 : Option Addr) (c0 : Nat) (l0 : List Int) (a1 : Int) (r1 : Int) (r2 : List Int) (r3 : List Int) (r4 : Int) (r5 : Int) (w : World) (hr0 : Kd.C (Kd.int .u8) w A0 l0.length l0) (hc0 : l0.length ≤ c0) (h : notaryref46_Read.f k l0 a1 = some (r1, r2, r3, r4, r5)) :
    Calls Try.prog 43 #[.slice A0 l0.length c0, .int .i64 a1] w fun e w' => ∃ v1_ v2_ : Value, e = .returned (.tuple #[.agg #[.int .i64 r1, v1_], v2_, .int .i64 r4, .int .i64 r5]) ∧ Kd.R (Kd.int .u8) 5 w' w.heap.size (fun k_ => some k_ ≠ (v2_ : Value).ownBlock) v1_ r2 ∧ Kd.R (Kd.int .u8) 5 w' w.heap.size (fun k_ => some k_ ≠ (v1_ : Value).ownBlock) v2_ r3 ∧ Below w.heap.size w w' := by
  have hu35 := Try.underlying35
  have HR0 := Aside0.mk hr0
  have HC0 := Aside0.mk hc0
  clear hr0 hc0
  have HB := Aside0.mk (Below.refl w.heap.size w)
  have H : (if a1 < 0 then (notaryref46_Read.j0 k l0 a1 true 0) else (notaryref46_Read.j0 k l0 a1 (decide (a1 > (l0.length : Int))) 0)) = some (r1, r2, r3, r4, r5) := h
  clear h
  have HC3 := Aside0.mk H
  clear H
  go_enter Try.func43, Try.ntmps43
  go_upto_region 2 with (first | ((with_reducible refine gate_dst (N := 4) rfl ?_); (try (refine gate_guard (by rfl) ?_; dsimp only)); refine box_event ?hg (N := 4) ?hd (cs := #[.int .i64 0, .slice none 0 0]) (t := 35) ?hr ?_; (case hd => rfl); (case hg => rfl); (case hr => (go_simp; done)); intro gb148 hg w4 hbox hb; have n0_ := Aside0.mk (below_step HB.out hb); have n1_ := Aside0.mk (hbox); have n2_ := Aside0.mk ((by rw [hg]; exact (below_size HB.out) : w.heap.size ≤ gb148)); have n3_ := Aside0.mk ((by rw [hg]; exact (below_size HB.out) : w.heap.size ≤ gb148)); clear HB; have HB := n0_; have BK148 := n1_; have GW148 := n2_; have GE148 := n3_; clear n0_ n1_ n2_ n3_; clear hb hbox hg) | ((with_reducible refine gate_dst (N := 8) rfl ?_); (try (refine gate_guard (by rfl) ?_; dsimp only)); refine box_event ?hg (N := 8) ?hd (cs := #[.int .i64 0, .slice none 0 0]) (t := 35) ?hr ?_; (case hd => rfl); (case hg => rfl); (case hr => (go_simp; done)); intro gb149 hg w5 hbox hb; have n0_ := Aside0.mk (blk_below (g := gb148) (o := .cells #[.int .i64 0, .slice none 0 0] 35 (0, 0)) (by exact BK148.out) hb); have n1_ := Aside0.mk (below_step HB.out hb); have n2_ := Aside0.mk (hbox); have n3_ := Aside0.mk ((by rw [hg]; exact (below_size HB.out) : w.heap.size ≤ gb149)); have n4_ := Aside0.mk ((by rw [hg]; exact (below_size HB.out) : w.heap.size ≤ gb149)); have n5_ := Aside0.mk ((by rw [hg]; exact Nat.ne_of_lt (blk_lt (g := gb148) (o := .cells #[.int .i64 0, .slice none 0 0] 35 (0, 0)) (by exact BK148.out)) : gb148 ≠ gb149)); have n6_ := Aside0.mk ((by rw [hg]; exact Nat.ne_of_gt (blk_lt (g := gb148) (o := .cells #[.int .i64 0, .slice none 0 0] 35 (0, 0)) (by exact BK148.out)) : gb149 ≠ gb148)); clear BK148; clear HB; have BK148 := n0_; have HB := n1_; have BK149 := n2_; have GW149 := n3_; have GE149 := n4_; have NB148_149 := n5_; have NB149_148 := n6_; clear n0_ n1_ n2_ n3_ n4_ n5_ n6_; clear hb hbox hg; have hnb6 := NB149_148.out; have hnc6 := NB148_149.out; have hcz7_0 : w5.cell? ⟨gb149, 0, none⟩ = some (.int .i64 0) := (blk_cell BK149.out 0).trans rfl; have hcz7_1 : w5.cell? ⟨gb149, 1, none⟩ = some (.slice none 0 0) := (blk_cell BK149.out 1).trans rfl; have hfz7_0 := blk_frozen BK149.out 0; have hfz7_1 := blk_frozen BK149.out 1))
  (skip)
  go_cut [20] (fun v20 wc => ∃ (kq : Nat) (x20_2 : Bool), v20 = .bool x20_2 ∧ Aside0 (notaryref46_Read.j0 kq l0 a1 x20_2 0 = some (r1, r2, r3, r4, r5)) ∧ Aside0 (kq ≤ k) ∧ Aside0 (wc.heap[gb148]? = some (.cells #[.int .i64 0, (.slice none 0 0)] 35 (0, 0))) ∧ Aside0 (wc.heap[gb149]? = some (.cells #[.int .i64 0, (.slice none 0 0)] 35 (0, 0))) ∧ Aside0 (Below w.heap.size w wc))
  case first =>
    have H := HC3.out
    clear HC3
    by_cases c8 : a1 < 0
    · rw [if_pos c8] at H
      have c8b0 : decide (a1 < 0) = true := decide_eq_true c8
      clear c8
      (skip)
      have H' := Aside0.mk H
      clear H
      go_wp2
      go_meet
      case rel => exact ⟨_, (true), (by (rfl)), H', ⟨by (omega)⟩, ⟨by refine blk_far ?_ NB148_149.out _; refine blk_far ?_ NB148_149.out _; exact BK148.out⟩, ⟨by refine blk_put (cs := #[.int .i64 0, .slice none 0 0]) ?_ 1 _ rfl; refine blk_put (cs := #[.int .i64 0, .slice none 0 0]) ?_ 0 _ rfl; exact BK149.out⟩, ⟨by repeat (with_reducible first | exact HB.out | refine below_set ?_ GE149.out)⟩⟩
    rw [if_neg c8] at H
    have c8b0 : decide (a1 < 0) = false := decide_eq_false c8
    clear c8
    (skip)
    have H' := Aside0.mk H
    clear H
    go_wp2
    go_meet
    case rel => exact ⟨_, (decide (a1 > (l0.length : Int))), (by (rfl)), H', ⟨by (omega)⟩, ⟨by refine blk_far ?_ NB148_149.out _; refine blk_far ?_ NB148_149.out _; exact BK148.out⟩, ⟨by refine blk_put (cs := #[.int .i64 0, .slice none 0 0]) ?_ 1 _ rfl; refine blk_put (cs := #[.int .i64 0, .slice none 0 0]) ?_ 0 _ rfl; exact BK149.out⟩, ⟨by repeat (with_reducible first | exact HB.out | refine below_set ?_ GE149.out)⟩⟩
  clear HC3
  try clear hcz7_0
  try clear hcz7_1
  try clear hfz7_0
  try clear hfz7_1
  obtain ⟨kq, x20_2, rfl, HA, HJ2, BK148, BK149, HB⟩ := hcut
  rcases kq with _ | kj2
  · exact absurd HA.out (by simp [notaryref46_Read.j0])
  have H := HA.out
  clear HA
  simp only [notaryref46_Read.j0] at H
  by_cases c9 : x20_2 = true
  · subst c9
    have H1 : (some (0, ([] : List Int), ([] : List Int), 0, 13)) = some (r1, r2, r3, r4, r5) := by rw [if_pos rfl] at H; exact H
    clear H
    have H := H1
    clear H1
    obtain ⟨y150, hy150⟩ : ∃ y_ : List Int, y_ = ([] : List Int) := ⟨_, rfl⟩
    replace H : (some (0, ([] : List Int), y150, 0, 13)) = some (r1, r2, r3, r4, r5) := by (rw [hy150]; with_reducible exact H)
    have Ny150 := Aside0.mk hy150
    clear hy150
    simp only [Option.some.injEq, Prod.mk.injEq] at H
    obtain ⟨rfl, rfl, rfl, rfl, rfl⟩ := H
    have hnb10 := NB149_148.out
    have hnc10 := NB148_149.out
    have hcz11_0 : wc.cell? ⟨gb149, 0, none⟩ = some (.int .i64 0) := (blk_cell BK149.out 0).trans rfl
    have hcz11_1 : wc.cell? ⟨gb149, 1, none⟩ = some (.slice none 0 0) := (blk_cell BK149.out 1).trans rfl
    have hfz11_0 := blk_frozen BK149.out 0
    have hfz11_1 := blk_frozen BK149.out 1
    go_wp2_with ((((with_reducible refine gate_dst (N := 22) rfl ?_); (try (refine gate_guard (by rfl) ?_; dsimp only)); refine Kd.R_lit (Kd.int .u8) _ 5 ?hg (N := 22) ?hd (xs := ([] : List Int)) (inner := []) (ok := fun _ => True) (okp := fun _ => True) ?hr ?hp (fun _ hk => hk) trivial (Below.refl _ _) (Nat.le_refl _) (by simp) ?_; (case hd => rfl); (case hg => rfl); (case hr => (go_simp; done)); (case hp => exact (Reps.none _ _)); intro v151 w12 ho13 hb hg_ hnew_; clear hg_ hnew_; (rw [← Ny150.out] at ho13); have n0_ := Aside0.mk (Kd.R_lower ho13 (below_size HB.out)); have n1_ := Aside0.mk (blk_below (g := gb148) (o := .cells #[.int .i64 0, .slice none 0 0] 35 (0, 0)) (by exact BK148.out) hb); have n2_ := Aside0.mk (blk_below (g := gb149) (o := .cells #[.int .i64 0, .slice none 0 0] 35 (0, 0)) (by exact BK149.out) hb); have n3_ := Aside0.mk (below_step HB.out hb); clear BK148; clear BK149; clear HB; have HO152 := n0_; have BK148 := n1_; have BK149 := n2_; have HB := n3_; clear n0_ n1_ n2_ n3_; clear hb ho13; have hcz14_0 : w12.cell? ⟨gb148, 0, none⟩ = some (.int .i64 0) := (blk_cell BK148.out 0).trans rfl; have hcz14_1 : w12.cell? ⟨gb148, 1, none⟩ = some (.slice none 0 0) := (blk_cell BK148.out 1).trans rfl; have hfz14_0 := blk_frozen BK148.out 0; have hfz14_1 := blk_frozen BK148.out 1)))
    refine bodyPost_ret (results_list (rs := [.cell 4 35, .tmp 5, .tmp 6, .tmp 7]) rfl (by simp) (.cell gb148 35 #[.int .i64 0, .slice none 0 0] (0, 0) _ rfl (by refine blk_put (cs := #[.int .i64 0, .slice none 0 0]) ?_ 1 _ rfl; refine blk_put (cs := #[.int .i64 0, .slice none 0 0]) ?_ 0 _ rfl; exact BK148.out) Try.underlying35 rfl (by kernel_rfl) (.tmp (.tmp (.tmp .nil))))) rfl ?_
    exact ⟨_, _, by (rfl), by (exact Kd.R_nil _ _ _ _ _), by exact Kd.R_mono (Kd.R_far (p := ⟨gb148, 1, none⟩) (Kd.R_far (p := ⟨gb148, 0, none⟩) (Kd.R_types HO152.out BK148.out (by decide)) (fun _ hk => hk.2) (.int .i64 0)) (fun _ hk => hk.2) (.slice none 0 0)) (fun _ hk => (by simp [Value.ownBlock])), by repeat (with_reducible first | exact HB.out | refine below_set ?_ GE148.out)⟩
  replace c9 := Bool.eq_false_iff.mpr c9
  subst c9
  have H1 : (if (wrap64 ((l0.length : Int) - a1)) < 4 then (some (0, ([] : List Int), ([] : List Int), 0, 1)) else (notaryref46_Read.l0 kj2 l0 a1 0 0 0)) = some (r1, r2, r3, r4, r5) := by rw [if_neg (show ¬ (false = true) by decide)] at H; exact H
  clear H
  have H := H1
  clear H1
  by_cases c15 : (wrap64 ((l0.length : Int) - a1)) < 4
  · rw [if_pos c15] at H
    have c15b0 : decide ((wrap64 ((l0.length : Int) - a1)) < 4) = true := decide_eq_true c15
    clear c15
    obtain ⟨y153, hy153⟩ : ∃ y_ : List Int, y_ = ([] : List Int) := ⟨_, rfl⟩
    replace H : (some (0, ([] : List Int), y153, 0, 1)) = some (r1, r2, r3, r4, r5) := by (rw [hy153]; with_reducible exact H)
    have Ny153 := Aside0.mk hy153
    clear hy153
    simp only [Option.some.injEq, Prod.mk.injEq] at H
    obtain ⟨rfl, rfl, rfl, rfl, rfl⟩ := H
    have hnb16 := NB149_148.out
    have hnc16 := NB148_149.out
    have hcz17_0 : wc.cell? ⟨gb149, 0, none⟩ = some (.int .i64 0) := (blk_cell BK149.out 0).trans rfl
    have hcz17_1 : wc.cell? ⟨gb149, 1, none⟩ = some (.slice none 0 0) := (blk_cell BK149.out 1).trans rfl
    have hfz17_0 := blk_frozen BK149.out 0
    have hfz17_1 := blk_frozen BK149.out 1
    go_wp2_with ((((with_reducible refine gate_dst (N := 29) rfl ?_); (try (refine gate_guard (by rfl) ?_; dsimp only)); refine Kd.R_lit (Kd.int .u8) _ 5 ?hg (N := 29) ?hd (xs := ([] : List Int)) (inner := []) (ok := fun _ => True) (okp := fun _ => True) ?hr ?hp (fun _ hk => hk) trivial (Below.refl _ _) (Nat.le_refl _) (by simp) ?_; (case hd => rfl); (case hg => rfl); (case hr => (go_simp; done)); (case hp => exact (Reps.none _ _)); intro v154 w18 ho19 hb hg_ hnew_; clear hg_ hnew_; (rw [← Ny153.out] at ho19); have n0_ := Aside0.mk (Kd.R_lower ho19 (below_size HB.out)); have n1_ := Aside0.mk (blk_below (g := gb148) (o := .cells #[.int .i64 0, .slice none 0 0] 35 (0, 0)) (by exact BK148.out) hb); have n2_ := Aside0.mk (blk_below (g := gb149) (o := .cells #[.int .i64 0, .slice none 0 0] 35 (0, 0)) (by exact BK149.out) hb); have n3_ := Aside0.mk (below_step HB.out hb); clear BK148; clear BK149; clear HB; have HO155 := n0_; have BK148 := n1_; have BK149 := n2_; have HB := n3_; clear n0_ n1_ n2_ n3_; clear hb ho19; have hcz20_0 : w18.cell? ⟨gb148, 0, none⟩ = some (.int .i64 0) := (blk_cell BK148.out 0).trans rfl; have hcz20_1 : w18.cell? ⟨gb148, 1, none⟩ = some (.slice none 0 0) := (blk_cell BK148.out 1).trans rfl; have hfz20_0 := blk_frozen BK148.out 0; have hfz20_1 := blk_frozen BK148.out 1)))
    refine bodyPost_ret (results_list (rs := [.cell 4 35, .tmp 5, .tmp 6, .tmp 7]) rfl (by simp) (.cell gb148 35 #[.int .i64 0, .slice none 0 0] (0, 0) _ rfl (by refine blk_put (cs := #[.int .i64 0, .slice none 0 0]) ?_ 1 _ rfl; refine blk_put (cs := #[.int .i64 0, .slice none 0 0]) ?_ 0 _ rfl; exact BK148.out) Try.underlying35 rfl (by kernel_rfl) (.tmp (.tmp (.tmp .nil))))) rfl ?_
    exact ⟨_, _, by (rfl), by (exact Kd.R_nil _ _ _ _ _), by exact Kd.R_mono (Kd.R_far (p := ⟨gb148, 1, none⟩) (Kd.R_far (p := ⟨gb148, 0, none⟩) (Kd.R_types HO155.out BK148.out (by decide)) (fun _ hk => hk.2) (.int .i64 0)) (fun _ hk => hk.2) (.slice none 0 0)) (fun _ hk => (by simp [Value.ownBlock])), by repeat (with_reducible first | exact HB.out | refine below_set ?_ GE148.out)⟩
  rw [if_neg c15] at H
  have c15b0 : decide ((wrap64 ((l0.length : Int) - a1)) < 4) = false := decide_eq_false c15
  clear c15
  have H' := Aside0.mk H
  clear H
  go_wp2
  go_loopg [9, 10] kj2 (fun kq v9 v10 w' => ∃ (x9_2 : Int) (x10_2 : Int), v9 = .int .i64 x9_2 ∧ v10 = .int .i64 x10_2 ∧ Aside0 (notaryref46_Read.l0 kq l0 a1 x9_2 x10_2 0 = some (r1, r2, r3, r4, r5)) ∧ Aside0 (kq ≤ kj2) ∧ Aside0 (w'.heap[gb148]? = some (.cells #[.int .i64 0, (.slice none 0 0)] 35 (0, 0))) ∧ Aside0 (w'.heap[gb149]? = some (.cells #[.int .i64 0, (.slice none 0 0)] 35 (0, 0))) ∧ Aside0 (Below w.heap.size w w'))
  case atStart => exact ⟨(0), (0), (by (rfl)), (by (rfl)), H', ⟨Nat.le_refl _⟩, ⟨by exact BK148.out⟩, ⟨by exact BK149.out⟩, ⟨HB.out⟩⟩
  clear H'
  try clear c15b0
  obtain ⟨x9_2, x10_2, rfl, rfl, HA, HK2, BK148, BK149, HB⟩ := hrel
  rcases gk with _ | k2
  · exact absurd HA.out (by simp [notaryref46_Read.l0])
  have H := HA.out
  clear HA
  simp only [notaryref46_Read.l0] at H
  by_cases c21 : x10_2 < 4
  · rw [if_pos c21] at H
    have c21b0 : decide (x10_2 < 4) = true := decide_eq_true c21
    clear c21
    obtain ⟨ji22, hji22⟩ : ∃ j_ : Int, (wrap64 (a1 + x10_2)) = j_ := ⟨_, rfl⟩
    replace H : (if 0 ≤ (ji22) then (if (ji22) < (l0.length : Int) then (notaryref46_Read.l0 k2 l0 a1 (wrap64 ((wrap64 (x9_2 * 256)) + (wrap64 (rd l0 (ji22))))) (wrap64 (x10_2 + 1)) 0) else (none)) else (none)) = some (r1, r2, r3, r4, r5) := by (rw [hji22] at H; exact H)
    have hji22w : (IntKind.i64.wrap (a1 + x10_2)) = ji22 := (i64_w _).trans hji22
    by_cases c23 : 0 ≤ (ji22)
    rotate_left
    · rw [if_neg c23] at H
      exact absurd H (by simp)
    rw [if_pos c23] at H
    have c23b0 : decide (0 ≤ (ji22)) = true := decide_eq_true c23
    clear c23
    by_cases c24 : (ji22) < (l0.length : Int)
    rotate_left
    · rw [if_neg c24] at H
      exact absurd H (by simp)
    rw [if_pos c24] at H
    have c24b0 : decide ((ji22) < (l0.length : Int)) = true := decide_eq_true c24
    clear c24
    have H' := Aside0.mk H
    clear H
    have p156 : 0 ≤ ((ji22) : Int) := of_decide_eq_true (by (with_reducible assumption))
    have q156 : (ji22) < (l0.length : Int) := of_decide_eq_true (by (with_reducible assumption))
    obtain ⟨ad156, e156, hx156_0⟩ := Kd.at_int HR0.out (ji22) p156 q156
    cases e156
    replace hx156_0 := pw_cell_below HB.out hx156_0
    replace p156 := eq_true p156
    replace q156 := eq_true q156
    go_wp2
    go_roundg k2
    case measure => have := HJ2.out; have := HK2.out; omega
    case rel => exact ⟨(wrap64 ((wrap64 (x9_2 * 256)) + (wrap64 (rd l0 (ji22))))), (wrap64 (x10_2 + 1)), (by (rfl)), (by (rfl)), H', ⟨by have := HJ2.out; have := HK2.out; omega⟩, ⟨by exact BK148.out⟩, ⟨by exact BK149.out⟩, ⟨HB.out⟩⟩
  rw [if_neg c21] at H
  have c21b0 : decide (x10_2 < 4) = false := decide_eq_false c21
  clear c21
  by_cases c25 : x9_2 = 0
  · rw [if_pos c25] at H
    have c25b0 : (x9_2 == 0) = true := beq_iff_eq.mpr c25
    have c25b1 : (x9_2 != 0) = false := bne_eq_false_iff_eq.mpr c25
    clear c25
    obtain ⟨y157, hy157⟩ : ∃ y_ : List Int, y_ = ([] : List Int) := ⟨_, rfl⟩
    replace H : (some (0, ([] : List Int), y157, 0, 2)) = some (r1, r2, r3, r4, r5) := by (rw [hy157]; with_reducible exact H)
    have Ny157 := Aside0.mk hy157
    clear hy157
    simp only [Option.some.injEq, Prod.mk.injEq] at H
    obtain ⟨rfl, rfl, rfl, rfl, rfl⟩ := H
    have hnb26 := NB149_148.out
    have hnc26 := NB148_149.out
    have hcz27_0 : wr.cell? ⟨gb149, 0, none⟩ = some (.int .i64 0) := (blk_cell BK149.out 0).trans rfl
    have hcz27_1 : wr.cell? ⟨gb149, 1, none⟩ = some (.slice none 0 0) := (blk_cell BK149.out 1).trans rfl
    have hfz27_0 := blk_frozen BK149.out 0
    have hfz27_1 := blk_frozen BK149.out 1
    go_wp2_with ((((with_reducible refine gate_dst (N := 47) rfl ?_); (try (refine gate_guard (by rfl) ?_; dsimp only)); refine Kd.R_lit (Kd.int .u8) _ 5 ?hg (N := 47) ?hd (xs := ([] : List Int)) (inner := []) (ok := fun _ => True) (okp := fun _ => True) ?hr ?hp (fun _ hk => hk) trivial (Below.refl _ _) (Nat.le_refl _) (by simp) ?_; (case hd => rfl); (case hg => rfl); (case hr => (go_simp; done)); (case hp => exact (Reps.none _ _)); intro v158 w28 ho29 hb hg_ hnew_; clear hg_ hnew_; (rw [← Ny157.out] at ho29); have n0_ := Aside0.mk (Kd.R_lower ho29 (below_size HB.out)); have n1_ := Aside0.mk (blk_below (g := gb148) (o := .cells #[.int .i64 0, .slice none 0 0] 35 (0, 0)) (by exact BK148.out) hb); have n2_ := Aside0.mk (blk_below (g := gb149) (o := .cells #[.int .i64 0, .slice none 0 0] 35 (0, 0)) (by exact BK149.out) hb); have n3_ := Aside0.mk (below_step HB.out hb); clear BK148; clear BK149; clear HB; have HO159 := n0_; have BK148 := n1_; have BK149 := n2_; have HB := n3_; clear n0_ n1_ n2_ n3_; clear hb ho29; have hcz30_0 : w28.cell? ⟨gb148, 0, none⟩ = some (.int .i64 0) := (blk_cell BK148.out 0).trans rfl; have hcz30_1 : w28.cell? ⟨gb148, 1, none⟩ = some (.slice none 0 0) := (blk_cell BK148.out 1).trans rfl; have hfz30_0 := blk_frozen BK148.out 0; have hfz30_1 := blk_frozen BK148.out 1)))
    refine bodyPost_ret (results_list (rs := [.cell 4 35, .tmp 5, .tmp 6, .tmp 7]) rfl (by simp) (.cell gb148 35 #[.int .i64 0, .slice none 0 0] (0, 0) _ rfl (by refine blk_put (cs := #[.int .i64 0, .slice none 0 0]) ?_ 1 _ rfl; refine blk_put (cs := #[.int .i64 0, .slice none 0 0]) ?_ 0 _ rfl; exact BK148.out) Try.underlying35 rfl (by kernel_rfl) (.tmp (.tmp (.tmp .nil))))) rfl ?_
    exact ⟨_, _, by (rfl), by (exact Kd.R_nil _ _ _ _ _), by exact Kd.R_mono (Kd.R_far (p := ⟨gb148, 1, none⟩) (Kd.R_far (p := ⟨gb148, 0, none⟩) (Kd.R_types HO159.out BK148.out (by decide)) (fun _ hk => hk.2) (.int .i64 0)) (fun _ hk => hk.2) (.slice none 0 0)) (fun _ hk => (by simp [Value.ownBlock])), by repeat (with_reducible first | exact HB.out | refine below_set ?_ GE148.out)⟩
  rw [if_neg c25] at H
  have c25b0 : (x9_2 == 0) = false := beq_eq_false_iff_ne.mpr c25
  have c25b1 : (x9_2 != 0) = true := bne_iff_ne.mpr c25
  by_cases c31 : x9_2 > 1025
  · rw [if_pos c31] at H
    have c31b0 : decide (1025 < x9_2) = true := decide_eq_true c31
    clear c31
    obtain ⟨y160, hy160⟩ : ∃ y_ : List Int, y_ = ([] : List Int) := ⟨_, rfl⟩
    replace H : (some (0, ([] : List Int), y160, 0, 3)) = some (r1, r2, r3, r4, r5) := by (rw [hy160]; with_reducible exact H)
    have Ny160 := Aside0.mk hy160
    clear hy160
    simp only [Option.some.injEq, Prod.mk.injEq] at H
    obtain ⟨rfl, rfl, rfl, rfl, rfl⟩ := H
    have hnb32 := NB149_148.out
    have hnc32 := NB148_149.out
    have hcz33_0 : wr.cell? ⟨gb149, 0, none⟩ = some (.int .i64 0) := (blk_cell BK149.out 0).trans rfl
    have hcz33_1 : wr.cell? ⟨gb149, 1, none⟩ = some (.slice none 0 0) := (blk_cell BK149.out 1).trans rfl
    have hfz33_0 := blk_frozen BK149.out 0
    have hfz33_1 := blk_frozen BK149.out 1
    go_wp2_with ((((with_reducible refine gate_dst (N := 51) rfl ?_); (try (refine gate_guard (by rfl) ?_; dsimp only)); refine Kd.R_lit (Kd.int .u8) _ 5 ?hg (N := 51) ?hd (xs := ([] : List Int)) (inner := []) (ok := fun _ => True) (okp := fun _ => True) ?hr ?hp (fun _ hk => hk) trivial (Below.refl _ _) (Nat.le_refl _) (by simp) ?_; (case hd => rfl); (case hg => rfl); (case hr => (go_simp; done)); (case hp => exact (Reps.none _ _)); intro v161 w34 ho35 hb hg_ hnew_; clear hg_ hnew_; (rw [← Ny160.out] at ho35); have n0_ := Aside0.mk (Kd.R_lower ho35 (below_size HB.out)); have n1_ := Aside0.mk (blk_below (g := gb148) (o := .cells #[.int .i64 0, .slice none 0 0] 35 (0, 0)) (by exact BK148.out) hb); have n2_ := Aside0.mk (blk_below (g := gb149) (o := .cells #[.int .i64 0, .slice none 0 0] 35 (0, 0)) (by exact BK149.out) hb); have n3_ := Aside0.mk (below_step HB.out hb); clear BK148; clear BK149; clear HB; have HO162 := n0_; have BK148 := n1_; have BK149 := n2_; have HB := n3_; clear n0_ n1_ n2_ n3_; clear hb ho35; have hcz36_0 : w34.cell? ⟨gb148, 0, none⟩ = some (.int .i64 0) := (blk_cell BK148.out 0).trans rfl; have hcz36_1 : w34.cell? ⟨gb148, 1, none⟩ = some (.slice none 0 0) := (blk_cell BK148.out 1).trans rfl; have hfz36_0 := blk_frozen BK148.out 0; have hfz36_1 := blk_frozen BK148.out 1)))
    refine bodyPost_ret (results_list (rs := [.cell 4 35, .tmp 5, .tmp 6, .tmp 7]) rfl (by simp) (.cell gb148 35 #[.int .i64 0, .slice none 0 0] (0, 0) _ rfl (by refine blk_put (cs := #[.int .i64 0, .slice none 0 0]) ?_ 1 _ rfl; refine blk_put (cs := #[.int .i64 0, .slice none 0 0]) ?_ 0 _ rfl; exact BK148.out) Try.underlying35 rfl (by kernel_rfl) (.tmp (.tmp (.tmp .nil))))) rfl ?_
    exact ⟨_, _, by (rfl), by (exact Kd.R_nil _ _ _ _ _), by exact Kd.R_mono (Kd.R_far (p := ⟨gb148, 1, none⟩) (Kd.R_far (p := ⟨gb148, 0, none⟩) (Kd.R_types HO162.out BK148.out (by decide)) (fun _ hk => hk.2) (.int .i64 0)) (fun _ hk => hk.2) (.slice none 0 0)) (fun _ hk => (by simp [Value.ownBlock])), by repeat (with_reducible first | exact HB.out | refine below_set ?_ GE148.out)⟩
  rw [if_neg c31] at H
  have c31b0 : decide (1025 < x9_2) = false := decide_eq_false c31
  clear c31
  by_cases c37 : (wrap64 ((l0.length : Int) - a1)) < (wrap64 ((wrap64 (4 + x9_2)) + 32))
  · rw [if_pos c37] at H
    have c37b0 : decide ((wrap64 ((l0.length : Int) - a1)) < (wrap64 ((wrap64 (4 + x9_2)) + 32))) = true := decide_eq_true c37
    clear c37
    obtain ⟨y163, hy163⟩ : ∃ y_ : List Int, y_ = ([] : List Int) := ⟨_, rfl⟩
    replace H : (some (0, ([] : List Int), y163, 0, 1)) = some (r1, r2, r3, r4, r5) := by (rw [hy163]; with_reducible exact H)
    have Ny163 := Aside0.mk hy163
    clear hy163
    simp only [Option.some.injEq, Prod.mk.injEq] at H
    obtain ⟨rfl, rfl, rfl, rfl, rfl⟩ := H
    have hnb38 := NB149_148.out
    have hnc38 := NB148_149.out
    have hcz39_0 : wr.cell? ⟨gb149, 0, none⟩ = some (.int .i64 0) := (blk_cell BK149.out 0).trans rfl
    have hcz39_1 : wr.cell? ⟨gb149, 1, none⟩ = some (.slice none 0 0) := (blk_cell BK149.out 1).trans rfl
    have hfz39_0 := blk_frozen BK149.out 0
    have hfz39_1 := blk_frozen BK149.out 1
    go_wp2_with ((((with_reducible refine gate_dst (N := 61) rfl ?_); (try (refine gate_guard (by rfl) ?_; dsimp only)); refine Kd.R_lit (Kd.int .u8) _ 5 ?hg (N := 61) ?hd (xs := ([] : List Int)) (inner := []) (ok := fun _ => True) (okp := fun _ => True) ?hr ?hp (fun _ hk => hk) trivial (Below.refl _ _) (Nat.le_refl _) (by simp) ?_; (case hd => rfl); (case hg => rfl); (case hr => (go_simp; done)); (case hp => exact (Reps.none _ _)); intro v164 w40 ho41 hb hg_ hnew_; clear hg_ hnew_; (rw [← Ny163.out] at ho41); have n0_ := Aside0.mk (Kd.R_lower ho41 (below_size HB.out)); have n1_ := Aside0.mk (blk_below (g := gb148) (o := .cells #[.int .i64 0, .slice none 0 0] 35 (0, 0)) (by exact BK148.out) hb); have n2_ := Aside0.mk (blk_below (g := gb149) (o := .cells #[.int .i64 0, .slice none 0 0] 35 (0, 0)) (by exact BK149.out) hb); have n3_ := Aside0.mk (below_step HB.out hb); clear BK148; clear BK149; clear HB; have HO165 := n0_; have BK148 := n1_; have BK149 := n2_; have HB := n3_; clear n0_ n1_ n2_ n3_; clear hb ho41; have hcz42_0 : w40.cell? ⟨gb148, 0, none⟩ = some (.int .i64 0) := (blk_cell BK148.out 0).trans rfl; have hcz42_1 : w40.cell? ⟨gb148, 1, none⟩ = some (.slice none 0 0) := (blk_cell BK148.out 1).trans rfl; have hfz42_0 := blk_frozen BK148.out 0; have hfz42_1 := blk_frozen BK148.out 1)))
    refine bodyPost_ret (results_list (rs := [.cell 4 35, .tmp 5, .tmp 6, .tmp 7]) rfl (by simp) (.cell gb148 35 #[.int .i64 0, .slice none 0 0] (0, 0) _ rfl (by refine blk_put (cs := #[.int .i64 0, .slice none 0 0]) ?_ 1 _ rfl; refine blk_put (cs := #[.int .i64 0, .slice none 0 0]) ?_ 0 _ rfl; exact BK148.out) Try.underlying35 rfl (by kernel_rfl) (.tmp (.tmp (.tmp .nil))))) rfl ?_
    exact ⟨_, _, by (rfl), by (exact Kd.R_nil _ _ _ _ _), by exact Kd.R_mono (Kd.R_far (p := ⟨gb148, 1, none⟩) (Kd.R_far (p := ⟨gb148, 0, none⟩) (Kd.R_types HO165.out BK148.out (by decide)) (fun _ hk => hk.2) (.int .i64 0)) (fun _ hk => hk.2) (.slice none 0 0)) (fun _ hk => (by simp [Value.ownBlock])), by repeat (with_reducible first | exact HB.out | refine below_set ?_ GE148.out)⟩
  rw [if_neg c37] at H
  have c37b0 : decide ((wrap64 ((l0.length : Int) - a1)) < (wrap64 ((wrap64 (4 + x9_2)) + 32))) = false := decide_eq_false c37
  clear c37
  obtain ⟨ji43, hji43⟩ : ∃ j_ : Int, (wrap64 (a1 + 4)) = j_ := ⟨_, rfl⟩
  replace H : (if 0 ≤ (ji43) then (if (ji43) < (l0.length : Int) then (if (rd l0 (ji43)) < 1 then (some (0, ([] : List Int), ([] : List Int), 0, 23)) else (if (rd l0 (ji43)) > 3 then (some (0, ([] : List Int), ([] : List Int), 0, 23)) else ((some (([] : List Int) : List Int)).bind fun y175 => (if 0 ≤ (wrap64 (a1 + 5)) then (if (wrap64 (a1 + 5)) ≤ (wrap64 ((ji43) + x9_2)) then (if (wrap64 ((ji43) + x9_2)) ≤ (l0.length : Int) then (if y175.length + ((l0.take ((wrap64 ((ji43) + x9_2)) : Int).toNat).drop ((wrap64 (a1 + 5)) : Int).toNat).length < 140737488355328 then ((some (([] : List Int) : List Int)).bind fun y183 => (if 0 ≤ (wrap64 ((ji43) + x9_2)) then (if (wrap64 ((ji43) + x9_2)) ≤ (wrap64 ((wrap64 (a1 + 36)) + x9_2)) then (if (wrap64 ((wrap64 (a1 + 36)) + x9_2)) ≤ (l0.length : Int) then (if y183.length + ((l0.take ((wrap64 ((wrap64 (a1 + 36)) + x9_2)) : Int).toNat).drop ((wrap64 ((ji43) + x9_2)) : Int).toNat).length < 140737488355328 then (some (wrap64 (rd l0 (ji43)), (y175 ++ ((l0.take ((wrap64 ((ji43) + x9_2)) : Int).toNat).drop ((wrap64 (a1 + 5)) : Int).toNat)), (y183 ++ ((l0.take ((wrap64 ((wrap64 (a1 + 36)) + x9_2)) : Int).toNat).drop ((wrap64 ((ji43) + x9_2)) : Int).toNat)), wrap64 ((wrap64 (a1 + 36)) + x9_2), 0)) else (none)) else (none)) else (none)) else (none))) else (none)) else (none)) else (none)) else (none))))) else (none)) else (none)) = some (r1, r2, r3, r4, r5) := by (rw [hji43] at H; exact H)
  have hji43w : (IntKind.i64.wrap (a1 + 4)) = ji43 := (i64_w _).trans hji43
  by_cases c44 : 0 ≤ (ji43)
  rotate_left
  · rw [if_neg c44] at H
    exact absurd H (by simp)

  rw [if_pos c44] at H
  have c44b0 : decide (0 ≤ (ji43)) = true := decide_eq_true c44
  clear c44
  by_cases c45 : (ji43) < (l0.length : Int)
  rotate_left
  · rw [if_neg c45] at H
    exact absurd H (by simp)
  rw [if_pos c45] at H
  have c45b0 : decide ((ji43) < (l0.length : Int)) = true := decide_eq_true c45
  clear c45
  by_cases c46 : (rd l0 (ji43)) < 1
  · rw [if_pos c46] at H
    have c46b0 : decide ((rd l0 (ji43)) < 1) = true := decide_eq_true c46
    clear c46
    obtain ⟨y167, hy167⟩ : ∃ y_ : List Int, y_ = ([] : List Int) := ⟨_, rfl⟩
    replace H : (some (0, ([] : List Int), y167, 0, 23)) = some (r1, r2, r3, r4, r5) := by (rw [hy167]; with_reducible exact H)
    have Ny167 := Aside0.mk hy167
    clear hy167
    simp only [Option.some.injEq, Prod.mk.injEq] at H
    obtain ⟨rfl, rfl, rfl, rfl, rfl⟩ := H
    have p166 : 0 ≤ ((ji43) : Int) := of_decide_eq_true (by (with_reducible assumption))
    have q166 : (ji43) < (l0.length : Int) := of_decide_eq_true (by (with_reducible assumption))
    obtain ⟨ad166, e166, hx166_0⟩ := Kd.at_int HR0.out (ji43) p166 q166
    cases e166
    replace hx166_0 := pw_cell_below HB.out hx166_0
    replace p166 := eq_true p166
    replace q166 := eq_true q166
    have hnb47 := NB149_148.out
    have hnc47 := NB148_149.out
    have hcz48_0 : wr.cell? ⟨gb149, 0, none⟩ = some (.int .i64 0) := (blk_cell BK149.out 0).trans rfl
    have hcz48_1 : wr.cell? ⟨gb149, 1, none⟩ = some (.slice none 0 0) := (blk_cell BK149.out 1).trans rfl
    have hfz48_0 := blk_frozen BK149.out 0
    have hfz48_1 := blk_frozen BK149.out 1
    go_wp2_with ((((with_reducible refine gate_dst (N := 77) rfl ?_); (try (refine gate_guard (by rfl) ?_; dsimp only)); refine Kd.R_lit (Kd.int .u8) _ 5 ?hg (N := 77) ?hd (xs := ([] : List Int)) (inner := []) (ok := fun _ => True) (okp := fun _ => True) ?hr ?hp (fun _ hk => hk) trivial (Below.refl _ _) (Nat.le_refl _) (by simp) ?_; (case hd => rfl); (case hg => rfl); (case hr => (go_simp; done)); (case hp => exact (Reps.none _ _)); intro v168 w49 ho50 hb hg_ hnew_; clear hg_ hnew_; (rw [← Ny167.out] at ho50); have n0_ := Aside0.mk (Kd.R_lower ho50 (below_size HB.out)); have n1_ := Aside0.mk (blk_below (g := gb148) (o := .cells #[.int .i64 0, .slice none 0 0] 35 (0, 0)) (by exact BK148.out) hb); have n2_ := Aside0.mk (blk_below (g := gb149) (o := .cells #[.int .i64 0, .slice none 0 0] 35 (0, 0)) (by exact BK149.out) hb); have n3_ := Aside0.mk (below_step HB.out hb); clear BK148; clear BK149; clear HB; have HO169 := n0_; have BK148 := n1_; have BK149 := n2_; have HB := n3_; clear n0_ n1_ n2_ n3_; clear hb ho50; have hcz51_0 : w49.cell? ⟨gb148, 0, none⟩ = some (.int .i64 0) := (blk_cell BK148.out 0).trans rfl; have hcz51_1 : w49.cell? ⟨gb148, 1, none⟩ = some (.slice none 0 0) := (blk_cell BK148.out 1).trans rfl; have hfz51_0 := blk_frozen BK148.out 0; have hfz51_1 := blk_frozen BK148.out 1)))
    refine bodyPost_ret (results_list (rs := [.cell 4 35, .tmp 5, .tmp 6, .tmp 7]) rfl (by simp) (.cell gb148 35 #[.int .i64 0, .slice none 0 0] (0, 0) _ rfl (by refine blk_put (cs := #[.int .i64 0, .slice none 0 0]) ?_ 1 _ rfl; refine blk_put (cs := #[.int .i64 0, .slice none 0 0]) ?_ 0 _ rfl; exact BK148.out) Try.underlying35 rfl (by kernel_rfl) (.tmp (.tmp (.tmp .nil))))) rfl ?_
    exact ⟨_, _, by (rfl), by (exact Kd.R_nil _ _ _ _ _), by exact Kd.R_mono (Kd.R_far (p := ⟨gb148, 1, none⟩) (Kd.R_far (p := ⟨gb148, 0, none⟩) (Kd.R_types HO169.out BK148.out (by decide)) (fun _ hk => hk.2) (.int .i64 0)) (fun _ hk => hk.2) (.slice none 0 0)) (fun _ hk => (by simp [Value.ownBlock])), by repeat (with_reducible first | exact HB.out | refine below_set ?_ GE148.out)⟩
  rw [if_neg c46] at H
  have c46b0 : decide ((rd l0 (ji43)) < 1) = false := decide_eq_false c46
  clear c46
  by_cases c52 : (rd l0 (ji43)) > 3
  · rw [if_pos c52] at H
    have c52b0 : decide (3 < (rd l0 (ji43))) = true := decide_eq_true c52
    clear c52
    obtain ⟨y171, hy171⟩ : ∃ y_ : List Int, y_ = ([] : List Int) := ⟨_, rfl⟩
    replace H : (some (0, ([] : List Int), y171, 0, 23)) = some (r1, r2, r3, r4, r5) := by (rw [hy171]; with_reducible exact H)
    have Ny171 := Aside0.mk hy171
    clear hy171
    simp only [Option.some.injEq, Prod.mk.injEq] at H
    obtain ⟨rfl, rfl, rfl, rfl, rfl⟩ := H
    have p166 : 0 ≤ ((ji43) : Int) := of_decide_eq_true (by (with_reducible assumption))
    have q166 : (ji43) < (l0.length : Int) := of_decide_eq_true (by (with_reducible assumption))
    obtain ⟨ad166, e166, hx166_0⟩ := Kd.at_int HR0.out (ji43) p166 q166
    cases e166
    replace hx166_0 := pw_cell_below HB.out hx166_0
    replace p166 := eq_true p166
    replace q166 := eq_true q166
    have p170 : 0 ≤ ((ji43) : Int) := of_decide_eq_true (by (with_reducible assumption))
    have q170 : (ji43) < (l0.length : Int) := of_decide_eq_true (by (with_reducible assumption))
    obtain ⟨ad170, e170, hx170_0⟩ := Kd.at_int HR0.out (ji43) p170 q170
    obtain rfl : ad166 = ad170 := (by injection e170)
    replace hx170_0 := pw_cell_below HB.out hx170_0
    replace p170 := eq_true p170
    replace q170 := eq_true q170
    have hnb53 := NB149_148.out
    have hnc53 := NB148_149.out
    have hcz54_0 : wr.cell? ⟨gb149, 0, none⟩ = some (.int .i64 0) := (blk_cell BK149.out 0).trans rfl
    have hcz54_1 : wr.cell? ⟨gb149, 1, none⟩ = some (.slice none 0 0) := (blk_cell BK149.out 1).trans rfl
    have hfz54_0 := blk_frozen BK149.out 0
    have hfz54_1 := blk_frozen BK149.out 1
    go_wp2_with ((((with_reducible refine gate_dst (N := 77) rfl ?_); (try (refine gate_guard (by rfl) ?_; dsimp only)); refine Kd.R_lit (Kd.int .u8) _ 5 ?hg (N := 77) ?hd (xs := ([] : List Int)) (inner := []) (ok := fun _ => True) (okp := fun _ => True) ?hr ?hp (fun _ hk => hk) trivial (Below.refl _ _) (Nat.le_refl _) (by simp) ?_; (case hd => rfl); (case hg => rfl); (case hr => (go_simp; done)); (case hp => exact (Reps.none _ _)); intro v172 w55 ho56 hb hg_ hnew_; clear hg_ hnew_; (rw [← Ny171.out] at ho56); have n0_ := Aside0.mk (Kd.R_lower ho56 (below_size HB.out)); have n1_ := Aside0.mk (blk_below (g := gb148) (o := .cells #[.int .i64 0, .slice none 0 0] 35 (0, 0)) (by exact BK148.out) hb); have n2_ := Aside0.mk (blk_below (g := gb149) (o := .cells #[.int .i64 0, .slice none 0 0] 35 (0, 0)) (by exact BK149.out) hb); have n3_ := Aside0.mk (below_step HB.out hb); clear BK148; clear BK149; clear HB; have HO173 := n0_; have BK148 := n1_; have BK149 := n2_; have HB := n3_; clear n0_ n1_ n2_ n3_; clear hb ho56; have hcz57_0 : w55.cell? ⟨gb148, 0, none⟩ = some (.int .i64 0) := (blk_cell BK148.out 0).trans rfl; have hcz57_1 : w55.cell? ⟨gb148, 1, none⟩ = some (.slice none 0 0) := (blk_cell BK148.out 1).trans rfl; have hfz57_0 := blk_frozen BK148.out 0; have hfz57_1 := blk_frozen BK148.out 1)))
    refine bodyPost_ret (results_list (rs := [.cell 4 35, .tmp 5, .tmp 6, .tmp 7]) rfl (by simp) (.cell gb148 35 #[.int .i64 0, .slice none 0 0] (0, 0) _ rfl (by refine blk_put (cs := #[.int .i64 0, .slice none 0 0]) ?_ 1 _ rfl; refine blk_put (cs := #[.int .i64 0, .slice none 0 0]) ?_ 0 _ rfl; exact BK148.out) Try.underlying35 rfl (by kernel_rfl) (.tmp (.tmp (.tmp .nil))))) rfl ?_
    exact ⟨_, _, by (rfl), by (exact Kd.R_nil _ _ _ _ _), by exact Kd.R_mono (Kd.R_far (p := ⟨gb148, 1, none⟩) (Kd.R_far (p := ⟨gb148, 0, none⟩) (Kd.R_types HO173.out BK148.out (by decide)) (fun _ hk => hk.2) (.int .i64 0)) (fun _ hk => hk.2) (.slice none 0 0)) (fun _ hk => (by simp [Value.ownBlock])), by repeat (with_reducible first | exact HB.out | refine below_set ?_ GE148.out)⟩
  rw [if_neg c52] at H
  have c52b0 : decide (3 < (rd l0 (ji43))) = false := decide_eq_false c52
  clear c52
  obtain ⟨y175, hy175⟩ : ∃ y_ : List Int, y_ = ([] : List Int) := ⟨_, rfl⟩
  replace H : (if 0 ≤ (wrap64 (a1 + 5)) then (if (wrap64 (a1 + 5)) ≤ (wrap64 ((ji43) + x9_2)) then (if (wrap64 ((ji43) + x9_2)) ≤ (l0.length : Int) then (if y175.length + ((l0.take ((wrap64 ((ji43) + x9_2)) : Int).toNat).drop ((wrap64 (a1 + 5)) : Int).toNat).length < 140737488355328 then ((some (([] : List Int) : List Int)).bind fun y183 => (if 0 ≤ (wrap64 ((ji43) + x9_2)) then (if (wrap64 ((ji43) + x9_2)) ≤ (wrap64 ((wrap64 (a1 + 36)) + x9_2)) then (if (wrap64 ((wrap64 (a1 + 36)) + x9_2)) ≤ (l0.length : Int) then (if y183.length + ((l0.take ((wrap64 ((wrap64 (a1 + 36)) + x9_2)) : Int).toNat).drop ((wrap64 ((ji43) + x9_2)) : Int).toNat).length < 140737488355328 then (some (wrap64 (rd l0 (ji43)), (y175 ++ ((l0.take ((wrap64 ((ji43) + x9_2)) : Int).toNat).drop ((wrap64 (a1 + 5)) : Int).toNat)), (y183 ++ ((l0.take ((wrap64 ((wrap64 (a1 + 36)) + x9_2)) : Int).toNat).drop ((wrap64 ((ji43) + x9_2)) : Int).toNat)), wrap64 ((wrap64 (a1 + 36)) + x9_2), 0)) else (none)) else (none)) else (none)) else (none))) else (none)) else (none)) else (none)) else (none)) = some (r1, r2, r3, r4, r5) := by ((have H2_ := (Option.bind_some _ _).symm.trans H; rw [hy175]; with_reducible exact H2_))
  have Ny175 := Aside0.mk hy175
  clear hy175
  obtain ⟨ji58, hji58⟩ : ∃ j_ : Int, (wrap64 (a1 + 5)) = j_ := ⟨_, rfl⟩
  replace H : (if 0 ≤ (ji58) then (if (ji58) ≤ (wrap64 ((ji43) + x9_2)) then (if (wrap64 ((ji43) + x9_2)) ≤ (l0.length : Int) then (if y175.length + ((l0.take ((wrap64 ((ji43) + x9_2)) : Int).toNat).drop ((ji58) : Int).toNat).length < 140737488355328 then ((some (([] : List Int) : List Int)).bind fun y183 => (if 0 ≤ (wrap64 ((ji43) + x9_2)) then (if (wrap64 ((ji43) + x9_2)) ≤ (wrap64 ((wrap64 (a1 + 36)) + x9_2)) then (if (wrap64 ((wrap64 (a1 + 36)) + x9_2)) ≤ (l0.length : Int) then (if y183.length + ((l0.take ((wrap64 ((wrap64 (a1 + 36)) + x9_2)) : Int).toNat).drop ((wrap64 ((ji43) + x9_2)) : Int).toNat).length < 140737488355328 then (some (wrap64 (rd l0 (ji43)), (y175 ++ ((l0.take ((wrap64 ((ji43) + x9_2)) : Int).toNat).drop ((ji58) : Int).toNat)), (y183 ++ ((l0.take ((wrap64 ((wrap64 (a1 + 36)) + x9_2)) : Int).toNat).drop ((wrap64 ((ji43) + x9_2)) : Int).toNat)), wrap64 ((wrap64 (a1 + 36)) + x9_2), 0)) else (none)) else (none)) else (none)) else (none))) else (none)) else (none)) else (none)) else (none)) = some (r1, r2, r3, r4, r5) := by (rw [hji58] at H; exact H)
  have hji58w : (IntKind.i64.wrap (a1 + 5)) = ji58 := (i64_w _).trans hji58
  by_cases c59 : 0 ≤ (ji58)
  rotate_left
  · rw [if_neg c59] at H
    exact absurd H (by simp)
  rw [if_pos c59] at H
  have c59b0 := eq_true c59
  have c59b1 : decide (0 ≤ (ji58)) = true := decide_eq_true c59
  clear c59
  by_cases c60 : (ji58) ≤ (wrap64 ((ji43) + x9_2))
  rotate_left
  · rw [if_neg c60] at H
    exact absurd H (by simp)
  rw [if_pos c60] at H
  have c60b0 := eq_true c60
  have c60b1 : decide ((ji58) ≤ (wrap64 ((ji43) + x9_2))) = true := decide_eq_true c60
  by_cases c61 : (wrap64 ((ji43) + x9_2)) ≤ (l0.length : Int)
  rotate_left
  · rw [if_neg c61] at H
    exact absurd H (by simp)
  rw [if_pos c61] at H
  have c61b0 := eq_true c61
  have c61b1 : decide ((wrap64 ((ji43) + x9_2)) ≤ (l0.length : Int)) = true := decide_eq_true c61
  by_cases c62 : y175.length + ((l0.take ((wrap64 ((ji43) + x9_2)) : Int).toNat).drop ((ji58) : Int).toNat).length < 140737488355328
  rotate_left
  · rw [if_neg c62] at H
    exact absurd H (by simp)
  rw [if_pos c62] at H
  have LMc62 := Aside0.mk c62
  clear c62
  obtain ⟨y179, hy179⟩ : ∃ y_ : List Int, y_ = (y175 ++ ((l0.take ((wrap64 ((ji43) + x9_2)) : Int).toNat).drop ((ji58) : Int).toNat)) := ⟨_, rfl⟩
  replace H : ((some (([] : List Int) : List Int)).bind fun y183 => (if 0 ≤ (wrap64 ((ji43) + x9_2)) then (if (wrap64 ((ji43) + x9_2)) ≤ (wrap64 ((wrap64 (a1 + 36)) + x9_2)) then (if (wrap64 ((wrap64 (a1 + 36)) + x9_2)) ≤ (l0.length : Int) then (if y183.length + ((l0.take ((wrap64 ((wrap64 (a1 + 36)) + x9_2)) : Int).toNat).drop ((wrap64 ((ji43) + x9_2)) : Int).toNat).length < 140737488355328 then (some (wrap64 (rd l0 (ji43)), y179, (y183 ++ ((l0.take ((wrap64 ((wrap64 (a1 + 36)) + x9_2)) : Int).toNat).drop ((wrap64 ((ji43) + x9_2)) : Int).toNat)), wrap64 ((wrap64 (a1 + 36)) + x9_2), 0)) else (none)) else (none)) else (none)) else (none))) = some (r1, r2, r3, r4, r5) := by (rw [hy179]; with_reducible exact H)
  have Ny179 := Aside0.mk hy179
  clear hy179
  obtain ⟨y183, hy183⟩ : ∃ y_ : List Int, y_ = ([] : List Int) := ⟨_, rfl⟩
  replace H : (if 0 ≤ (wrap64 ((ji43) + x9_2)) then (if (wrap64 ((ji43) + x9_2)) ≤ (wrap64 ((wrap64 (a1 + 36)) + x9_2)) then (if (wrap64 ((wrap64 (a1 + 36)) + x9_2)) ≤ (l0.length : Int) then (if y183.length + ((l0.take ((wrap64 ((wrap64 (a1 + 36)) + x9_2)) : Int).toNat).drop ((wrap64 ((ji43) + x9_2)) : Int).toNat).length < 140737488355328 then (some (wrap64 (rd l0 (ji43)), y179, (y183 ++ ((l0.take ((wrap64 ((wrap64 (a1 + 36)) + x9_2)) : Int).toNat).drop ((wrap64 ((ji43) + x9_2)) : Int).toNat)), wrap64 ((wrap64 (a1 + 36)) + x9_2), 0)) else (none)) else (none)) else (none)) else (none)) = some (r1, r2, r3, r4, r5) := by ((have H2_ := (Option.bind_some _ _).symm.trans H; rw [hy183]; with_reducible exact H2_))
  have Ny183 := Aside0.mk hy183
  clear hy183
  obtain ⟨ji63, hji63⟩ : ∃ j_ : Int, (wrap64 ((ji43) + x9_2)) = j_ := ⟨_, rfl⟩
  replace H : (if 0 ≤ (ji63) then (if (ji63) ≤ (wrap64 ((wrap64 (a1 + 36)) + x9_2)) then (if (wrap64 ((wrap64 (a1 + 36)) + x9_2)) ≤ (l0.length : Int) then (if y183.length + ((l0.take ((wrap64 ((wrap64 (a1 + 36)) + x9_2)) : Int).toNat).drop ((ji63) : Int).toNat).length < 140737488355328 then (some (wrap64 (rd l0 (ji43)), y179, (y183 ++ ((l0.take ((wrap64 ((wrap64 (a1 + 36)) + x9_2)) : Int).toNat).drop ((ji63) : Int).toNat)), wrap64 ((wrap64 (a1 + 36)) + x9_2), 0)) else (none)) else (none)) else (none)) else (none)) = some (r1, r2, r3, r4, r5) := by (rw [hji63] at H; exact H)
  (try rw [hji63] at c60b0)
  (try rw [hji63] at c60b1)
  (try rw [hji63] at c60)
  (try rw [hji63] at c61b0)
  (try rw [hji63] at c61b1)
  (try rw [hji63] at c61)
  (try rw [hji63] at Ny179)
  (skip)
  (skip)
  have hji63w : (IntKind.i64.wrap ((ji43) + x9_2)) = ji63 := (i64_w _).trans hji63
  by_cases c64 : 0 ≤ (ji63)
  rotate_left
  · rw [if_neg c64] at H
    exact absurd H (by simp)
  rw [if_pos c64] at H
  have c64b0 := eq_true c64
  have c64b1 : decide (0 ≤ (ji63)) = true := decide_eq_true c64
  clear c64
  by_cases c65 : (ji63) ≤ (wrap64 ((wrap64 (a1 + 36)) + x9_2))
  rotate_left
  · rw [if_neg c65] at H
    exact absurd H (by simp)
  rw [if_pos c65] at H
  have c65b0 := eq_true c65
  have c65b1 : decide ((ji63) ≤ (wrap64 ((wrap64 (a1 + 36)) + x9_2))) = true := decide_eq_true c65
  by_cases c66 : (wrap64 ((wrap64 (a1 + 36)) + x9_2)) ≤ (l0.length : Int)
  rotate_left
  · rw [if_neg c66] at H
    exact absurd H (by simp)
  rw [if_pos c66] at H
  have c66b0 := eq_true c66
  have c66b1 : decide ((wrap64 ((wrap64 (a1 + 36)) + x9_2)) ≤ (l0.length : Int)) = true := decide_eq_true c66
  by_cases c67 : y183.length + ((l0.take ((wrap64 ((wrap64 (a1 + 36)) + x9_2)) : Int).toNat).drop ((ji63) : Int).toNat).length < 140737488355328
  rotate_left
  · rw [if_neg c67] at H
    exact absurd H (by simp)
  rw [if_pos c67] at H
  have LMc67 := Aside0.mk c67
  clear c67
  obtain ⟨y187, hy187⟩ : ∃ y_ : List Int, y_ = (y183 ++ ((l0.take ((wrap64 ((wrap64 (a1 + 36)) + x9_2)) : Int).toNat).drop ((ji63) : Int).toNat)) := ⟨_, rfl⟩
  replace H : (some (wrap64 (rd l0 (ji43)), y179, y187, wrap64 ((wrap64 (a1 + 36)) + x9_2), 0)) = some (r1, r2, r3, r4, r5) := by (rw [hy187]; with_reducible exact H)
  have Ny187 := Aside0.mk hy187
  clear hy187
  simp only [Option.some.injEq, Prod.mk.injEq] at H
  obtain ⟨rfl, rfl, rfl, rfl, rfl⟩ := H
  have p166 : 0 ≤ ((ji43) : Int) := of_decide_eq_true (by (with_reducible assumption))
  have q166 : (ji43) < (l0.length : Int) := of_decide_eq_true (by (with_reducible assumption))
  obtain ⟨ad166, e166, hx166_0⟩ := Kd.at_int HR0.out (ji43) p166 q166
  cases e166
  replace hx166_0 := pw_cell_below HB.out hx166_0
  replace p166 := eq_true p166
  replace q166 := eq_true q166
  have p170 : 0 ≤ ((ji43) : Int) := of_decide_eq_true (by (with_reducible assumption))
  have q170 : (ji43) < (l0.length : Int) := of_decide_eq_true (by (with_reducible assumption))
  obtain ⟨ad170, e170, hx170_0⟩ := Kd.at_int HR0.out (ji43) p170 q170
  obtain rfl : ad166 = ad170 := (by injection e170)
  replace hx170_0 := pw_cell_below HB.out hx170_0
  replace p170 := eq_true p170
  replace q170 := eq_true q170
  try go_wp2
  have n0_ := Aside0.mk (blk_drew BK148.out)
  have n1_ := Aside0.mk (blk_drew BK149.out)
  have n2_ := Aside0.mk (below_drew1 HB.out)
  clear BK148
  clear BK149
  clear HB
  have BK148 := n0_
  have BK149 := n1_
  have HB := n2_
  clear n0_ n1_ n2_
  have p174 : 0 ≤ ((ji43) : Int) := of_decide_eq_true (by (with_reducible assumption))
  have q174 : (ji43) < (l0.length : Int) := of_decide_eq_true (by (with_reducible assumption))
  obtain ⟨ad174, e174, hx174_0⟩ := Kd.at_int HR0.out (ji43) p174 q174
  have hw174_0 := hx174_0
  obtain rfl : ad166 = ad174 := (by injection e174)
  replace hx174_0 := pw_cell_below HB.out hx174_0
  replace p174 := eq_true p174
  replace q174 := eq_true q174
  obtain ⟨i069, hi069, _, hsz69, _⟩ := info_parts info5
  obtain ⟨A69, hcut69, hA69, hC69⟩ := print_mid_of (P := Try.prog) (Value.int .u8) 0 22 5 .i64 .i64 Try.underlying22 hi069 hsz69 (some ad166) c0 l0 (ji58) (ji63) (of_decide_eq_true (by (with_reducible assumption))) (by (omega)) (of_decide_eq_true (by (with_reducible assumption))) HC0.out
  have HR178 := Aside0.mk (Kd.C_of_reads (h1 := fun _ => rfl) (hA69 _ (Kd.reads_of_C HR0.out)))
  have HC178 := Aside0.mk hC69
  clear hA69 hC69 hi069 hsz69
  refine start_ (n := 19) (S := fun w' => w'.cell? (ad166.add (ji43).toNat) = some (.int .u8 (rd l0 (ji43)))) (ds := []) (bl 19 0) (by kernel_rfl) rfl rfl ((pw_cell_below HB.out hw174_0)) (fun hHeld => ?_); refine with_tabW notaryref46_Read.tab19 notaryref46_Read.bits19 (fun HT_ HW_ => ?_)
  generalize wr.drew = w68 at BK148 BK149 HB HR178 hx174_0 hHeld ⊢
  refine pure_ (i := 0) (N := some 78) (v := ?_) (a' := ?_) (bl 19 1) rfl rfl (any_of HT_.out (by kernel_rfl)) (fun _ _ _ h => h) (Or.inl ⟨by rfl, ?_⟩) ?_ ?_
  rotate_left
  · intro w'; go_simp; with_reducible rfl
  rotate_left
  · simp only [Act.put, sa_, sz_, ss_, i64_w, i32_w]; rfl
  refine pure_ (i := 1) (N := some 79) (v := ?_) (a' := ?_) (bl 19 3) rfl rfl (any_of HT_.out (by kernel_rfl)) (fun _ _ _ h => h) (Or.inl ⟨by rfl, ?_⟩) ?_ ?_
  rotate_left
  · intro w'; go_simp; with_reducible rfl
  rotate_left
  · simp only [Act.put, sa_, sz_, ss_, i64_w, i32_w]; rfl
  refine pure_ (i := 2) (N := some 80) (v := ?_) (a' := ?_) (bl 19 7) rfl rfl (any_of HT_.out (by kernel_rfl)) (fun _ _ _ h => h) (Or.inl ⟨by rfl, ?_⟩) ?_ ?_
  rotate_left
  · intro w'; go_simp; with_reducible rfl
  rotate_left
  · simp only [Act.put, sa_, sz_, ss_, i64_w, i32_w]; rfl
  refine pure_ (i := 3) (N := some 81) (v := ?_) (a' := ?_) (bl 19 15) rfl rfl (any_of HT_.out (by kernel_rfl)) (fun _ _ _ h => h) (Or.inl ⟨by rfl, ?_⟩) ?_ ?_
  rotate_left
  · intro w'; go_simp; with_reducible rfl
  rotate_left
  · simp only [Act.put, sa_, sz_, ss_, i64_w, i32_w]; rfl
  refine pure_ (i := 7) (N := some 85) (v := ?_) (a' := ?_) (bl 19 143) rfl rfl (any_of HT_.out (by kernel_rfl)) (fun _ _ _ h => h) (Or.inl ⟨by rfl, ?_⟩) ?_ ?_
  rotate_left
  · intro w'; go_simp; with_reducible rfl
  rotate_left
  · simp only [Act.put, sa_, sz_, ss_, i64_w, i32_w]; rfl
  refine pure_ (i := 8) (N := some 86) (v := ?_) (a' := ?_) (bl 19 399) rfl rfl (any_of HT_.out (by kernel_rfl)) (fun _ _ _ h => h) (Or.inl ⟨by rfl, ?_⟩) ?_ ?_
  rotate_left
  · intro w'; go_simp; with_reducible rfl
  rotate_left
  · simp only [Act.put, sa_, sz_, ss_, i64_w, i32_w]; rfl
  refine pure_ (i := 9) (N := some 87) (v := ?_) (a' := ?_) (bl 19 911) rfl rfl (any_of HT_.out (by kernel_rfl)) (fun _ _ _ h => h) (Or.inl ⟨by rfl, ?_⟩) ?_ ?_
  rotate_left
  · intro w'; go_simp; with_reducible rfl
  rotate_left
  · simp only [Act.put, sa_, sz_, ss_, i64_w, i32_w]; rfl
  refine pure_ (i := 10) (N := some 88) (v := ?_) (a' := ?_) (bl 19 1935) rfl rfl (any_of HT_.out (by kernel_rfl)) (fun _ _ _ h => h) (Or.inl ⟨by rfl, ?_⟩) ?_ ?_
  rotate_left
  · intro w'; go_simp; with_reducible rfl
  rotate_left
  · simp only [Act.put, sa_, sz_, ss_, i64_w, i32_w]; rfl
  refine pure_ (i := 11) (N := some 89) (v := ?_) (a' := ?_) (bl 19 3983) rfl rfl (any_of HT_.out (by kernel_rfl)) (fun _ _ _ h => h) (Or.inl ⟨by rfl, ?_⟩) ?_ ?_
  rotate_left
  · intro w'; go_simp; with_reducible rfl
  rotate_left
  · simp only [Act.put, sa_, sz_, ss_, i64_w, i32_w]; rfl
  refine pure_ (i := 12) (N := some 90) (v := ?_) (a' := ?_) (bl 19 8079) rfl rfl (any_of HT_.out (by kernel_rfl)) (fun _ _ _ h => h) (Or.inl ⟨by rfl, ?_⟩) ?_ ?_
  rotate_left
  · intro w'; go_simp; with_reducible rfl
  rotate_left
  · simp only [Act.put, sa_, sz_, ss_, i64_w, i32_w]; rfl
  refine pure_ (i := 13) (N := some 91) (v := ?_) (a' := ?_) (bl 19 16271) rfl rfl (any_of HT_.out (by kernel_rfl)) (fun _ _ _ h => h) (Or.inl ⟨by rfl, ?_⟩) ?_ ?_
  rotate_left
  · intro w'; go_simp; with_reducible rfl
  rotate_left
  · simp only [Act.put, sa_, sz_, ss_, i64_w, i32_w]; rfl
  refine pure_ (i := 14) (N := some 92) (v := ?_) (a' := ?_) (bl 19 32655) rfl rfl (any_of HT_.out (by kernel_rfl)) (fun _ _ _ h => h) (Or.inl ⟨by rfl, ?_⟩) ?_ ?_
  rotate_left
  · intro w'; go_simp; with_reducible rfl
  rotate_left
  · simp only [Act.put, sa_, sz_, ss_, i64_w, i32_w]; rfl
  refine take_ (i := 4) (N := some 82) (v := ?_) (a' := ?_) (bl 19 32671) rfl rfl (take_ofW HT_.out HW_.out (by kernel_rfl)) (fun _ _ _ h => h) (Or.inl ⟨by rfl, ?_⟩) hHeld ?_ ?_
  rotate_left
  · intro w' s0
    go_simp
    with_reducible rfl
  rotate_left
  · simp only [Act.put, sa_, sz_, ss_, i64_w, i32_w]; rfl
  refine pure_ (i := 5) (N := some 83) (v := ?_) (a' := ?_) (bl 19 32703) rfl rfl (any_of HT_.out (by kernel_rfl)) (fun _ _ _ h => h) (Or.inl ⟨by rfl, ?_⟩) ?_ ?_
  rotate_left
  · intro w'; go_simp; with_reducible rfl
  rotate_left
  · simp only [Act.put, sa_, sz_, ss_, i64_w, i32_w]; rfl
  refine join_ (σ := Value × Value × Nat) 1 (bl 19 262143) (fun s_ => [(84, s_.1), (93, s_.2.1), (11, .pointer (some ⟨s_.2.2, 0, none⟩)), (94, .agg #[.int .i64 (wrap64 (rd l0 (ji43))), s_.2.1])]) (fun s_ w' => (w'.cell? (ad166.add (ji43).toNat) = some (.int .u8 (rd l0 (ji43)))) ∧ (Kd.R (Kd.int .u8) 5 w' w.heap.size (fun _ => True) s_.2.1 y179) ∧ (w'.heap[gb148]? = some (.cells #[.int .i64 0, .slice none 0 0] 35 (0, 0))) ∧ (w'.heap[gb149]? = some (.cells #[.int .i64 0, .slice none 0 0] 35 (0, 0))) ∧ (w'.heap[s_.2.2]? = some (.cells #[.int .i64 0, .slice none 0 0] 35 (0, 0))) ∧ (w.heap.size ≤ s_.2.2) ∧ (w.heap.size ≤ s_.2.2) ∧ (gb148 ≠ s_.2.2) ∧ (s_.2.2 ≠ gb148) ∧ (gb149 ≠ s_.2.2) ∧ (s_.2.2 ≠ gb149) ∧ (Below w.heap.size w w')) ?_ ?_
  rotate_left
  · intro hCont
    refine two_ (i := 6) (j := 17) (Ni := some 84) (Nj := some 11) (bl 19 32767) (bl 19 163775) rfl rfl rfl rfl (two_of HT_.out (by kernel_rfl)) (by decide) (by decide) (fun K hK => ?_) (fun K hK => ?_)
    · skip
      refine Kd.R_lit_step (Kd.int .u8) _ 5 ?hg (N := 84) ?hd (xs := ([] : List Int)) (inner := []) (ok := fun _ => True) (okp := fun _ => True) ?hr ?hp (fun _ hk => hk) trivial (Below.refl _ _) (Nat.le_refl _) (by simp) ?_; (case hd => rfl); (case hg => rfl); (case hr => (go_simp; done)); (case hp => exact (Reps.none _ _))
      intro v176 w70 ho71 hb hg_ hnew_
      clear hg_ hnew_
      (rw [← Ny175.out] at ho71)
      have n0_ := Aside0.mk (Kd.R_lower ho71 (below_size HB.out))
      have n1_ := Aside0.mk (blk_below (g := gb148) (o := .cells #[.int .i64 0, .slice none 0 0] 35 (0, 0)) (by exact BK148.out) hb)
      have n2_ := Aside0.mk (blk_below (g := gb149) (o := .cells #[.int .i64 0, .slice none 0 0] 35 (0, 0)) (by exact BK149.out) hb)
      have n3_ := Aside0.mk (below_step HB.out hb)
      clear BK148
      clear BK149
      clear HB
      have HO177 := n0_
      have BK148 := n1_
      have BK149 := n2_
      have HB := n3_
      clear n0_ n1_ n2_ n3_
      clear hb ho71
      refine hK.out _ _ ((pw_cell_below HB.out hw174_0)) (fun hHeld => ?_)
      clear hK K
      refine norm_ (a' := ?_) ?_ ?_
      rotate_left
      · show Act.put _ (some 84) _ = _
        simp only [Act.put, sa_, sz_, ss_, i64_w, i32_w]
        rfl
      refine two_ (i := 15) (j := 17) (Ni := some 93) (Nj := some 11) (bl 19 65535) (bl 19 163839) rfl rfl rfl rfl (two_of HT_.out (by kernel_rfl)) (by decide) (by decide) (fun K hK => ?_) (fun K hK => ?_)
      · skip
        refine Kd.R_append_rows_step (Kd.int .u8) (w0 := w) w.heap.size (by rfl) (.tmp 84) (.tmp 92) 22 5 (.int .u8 0) 1 rfl Try.underlying22 info5 rfl (by decide) (by omega) v176 y175 ((l0.take ((ji63) : Int).toNat).drop ((ji58) : Int).toNat) _ _ _ (fun _ => True) (fun _ => False) rfl rfl ?aO ?aR (fun _ _ h => h) (fun _ h => h.elim) ?aF ?aB ?aS ?aL ?_
        (case aR => ((rw [← show ((l0.take ((ji63) : Int).toNat).drop ((ji58) : Int).toNat).length = ((ji63).toNat - (ji58).toNat) from (by rw [List.length_drop, List.length_take]; have h_ : ((ji63) : Int) ≤ (l0.length : Int) := of_decide_eq_true (by (with_reducible assumption)); omega)]; repeat ((exact (Kd.C_below HR178.out HB.out))))))
        (case aB => exact HB.out)
        (case aF => exact (fun _ _ => trivial))
        (case aO => exact (by exact HO177.out))
        (case aS => exact (below_size HB.out))
        (case aL => have := LMc62.out; (try (rw [hji63] at this)); (try first | rw [hji58] at this); have hlx_ := (show ((l0.take ((ji63) : Int).toNat).drop ((ji58) : Int).toNat).length = ((ji63).toNat - (ji58).toNat) from (by rw [List.length_drop, List.length_take]; have h_ : ((ji63) : Int) ≤ (l0.length : Int) := of_decide_eq_true (by (with_reducible assumption)); omega)); omega)
        intro v180 w72 ho hb hg hat
        rw [← Ny179.out] at ho
        have n0_ := Aside0.mk (blk_grown (g := gb148) (o := .cells #[.int .i64 0, .slice none 0 0] 35 (0, 0)) (by exact BK148.out) hg (Kd.R_ne HO177.out BK148.out (by decide)))
        have n1_ := Aside0.mk (blk_grown (g := gb149) (o := .cells #[.int .i64 0, .slice none 0 0] 35 (0, 0)) (by exact BK149.out) hg (Kd.R_ne HO177.out BK149.out (by decide)))
        have n2_ := Aside0.mk (hb)
        have n3_ := Aside0.mk (ho)
        clear BK148
        clear BK149
        clear HB
        clear HO177
        have BK148 := n0_
        have BK149 := n1_
        have HB := n2_
        have HO181 := n3_
        clear n0_ n1_ n2_ n3_
        clear ho hb hg hat
        obtain ⟨Ao73, co73, eo73⟩ := Kd.R_slice HO181.out
        (subst eo73)
        refine hK.out _ _ ((pw_cell_below HB.out hw174_0)) (fun hHeld => ?_)
        clear hK K
        refine norm_ (a' := ?_) ?_ ?_
        rotate_left
        · show Act.put _ (some 93) _ = _
          simp only [Act.put, sa_, sz_, ss_, i64_w, i32_w]
          rfl
        refine pure_ (i := 16) (N := some 94) (v := ?_) (a' := ?_) (bl 19 131071) rfl rfl (any_of HT_.out (by kernel_rfl)) (fun _ _ _ h => h) (Or.inl ⟨by rfl, ?_⟩) ?_ ?_
        rotate_left
        · intro w'; go_simp; with_reducible rfl
        rotate_left
        · simp only [Act.put, sa_, sz_, ss_, i64_w, i32_w]; rfl
        refine one_ (i := 17) (N := some 11) (bl 19 262143) rfl rfl (one_of HT_.out (by kernel_rfl)) (by decide) (fun K hK => ?_)
        refine box_step ?hg (N := 11) ?hd (cs := #[.int .i64 0, .slice none 0 0]) (t := 35) ?hr ?_; (case hd => rfl); (case hg => rfl); (case hr => (go_simp; done))
        intro gb182 hg w74 hbox hb
        have n0_ := Aside0.mk (Kd.R_below (by exact HO181.out) hb)
        have n1_ := Aside0.mk (blk_below (g := gb148) (o := .cells #[.int .i64 0, .slice none 0 0] 35 (0, 0)) (by exact BK148.out) hb)
        have n2_ := Aside0.mk (blk_below (g := gb149) (o := .cells #[.int .i64 0, .slice none 0 0] 35 (0, 0)) (by exact BK149.out) hb)
        have n3_ := Aside0.mk (below_step HB.out hb)
        have n4_ := Aside0.mk (hbox)
        have n5_ := Aside0.mk ((by rw [hg]; exact (below_size HB.out) : w.heap.size ≤ gb182))
        have n6_ := Aside0.mk ((by rw [hg]; exact (below_size HB.out) : w.heap.size ≤ gb182))
        have n7_ := Aside0.mk ((by rw [hg]; exact Nat.ne_of_lt (blk_lt (g := gb148) (o := .cells #[.int .i64 0, .slice none 0 0] 35 (0, 0)) (by exact BK148.out)) : gb148 ≠ gb182))
        have n8_ := Aside0.mk ((by rw [hg]; exact Nat.ne_of_gt (blk_lt (g := gb148) (o := .cells #[.int .i64 0, .slice none 0 0] 35 (0, 0)) (by exact BK148.out)) : gb182 ≠ gb148))
        have n9_ := Aside0.mk ((by rw [hg]; exact Nat.ne_of_lt (blk_lt (g := gb149) (o := .cells #[.int .i64 0, .slice none 0 0] 35 (0, 0)) (by exact BK149.out)) : gb149 ≠ gb182))
        have n10_ := Aside0.mk ((by rw [hg]; exact Nat.ne_of_gt (blk_lt (g := gb149) (o := .cells #[.int .i64 0, .slice none 0 0] 35 (0, 0)) (by exact BK149.out)) : gb182 ≠ gb149))
        clear HO181
        clear BK148
        clear BK149
        clear HB
        have HO181 := n0_
        have BK148 := n1_
        have BK149 := n2_
        have HB := n3_
        have BK182 := n4_
        have GW182 := n5_
        have GE182 := n6_
        have NB148_182 := n7_
        have NB182_148 := n8_
        have NB149_182 := n9_
        have NB182_149 := n10_
        clear n0_ n1_ n2_ n3_ n4_ n5_ n6_ n7_ n8_ n9_ n10_
        clear hb hbox hg
        refine hK.out _ _ ((pw_cell_below HB.out hw174_0)) (fun hHeld => ?_)
        clear hK K
        refine norm_ (a' := ?_) ?_ ?_
        rotate_left
        · show Act.put _ (some 11) _ = _
          simp only [Act.put, sa_, sz_, ss_, i64_w, i32_w]
          rfl
        exact norm_ (by simp only [putAll, Act.put, sa_, sz_, ss_]) (hCont (v176, .slice Ao73 y179.length co73, gb182) _ ⟨hHeld, (by exact HO181.out), (by exact BK148.out), (by exact BK149.out), (by exact BK182.out), GW182.out, GE182.out, NB148_182.out, NB182_148.out, NB149_182.out, NB182_149.out, HB.out⟩)
      · skip
        refine box_step ?hg (N := 11) ?hd (cs := #[.int .i64 0, .slice none 0 0]) (t := 35) ?hr ?_; (case hd => rfl); (case hg => rfl); (case hr => (go_simp; done))
        intro gb182 hg w72 hbox hb
        have n0_ := Aside0.mk (Kd.R_below (by exact HO177.out) hb)
        have n1_ := Aside0.mk (blk_below (g := gb148) (o := .cells #[.int .i64 0, .slice none 0 0] 35 (0, 0)) (by exact BK148.out) hb)
        have n2_ := Aside0.mk (blk_below (g := gb149) (o := .cells #[.int .i64 0, .slice none 0 0] 35 (0, 0)) (by exact BK149.out) hb)
        have n3_ := Aside0.mk (below_step HB.out hb)
        have n4_ := Aside0.mk (hbox)
        have n5_ := Aside0.mk ((by rw [hg]; exact (below_size HB.out) : w.heap.size ≤ gb182))
        have n6_ := Aside0.mk ((by rw [hg]; exact (below_size HB.out) : w.heap.size ≤ gb182))
        have n7_ := Aside0.mk ((by rw [hg]; exact Nat.ne_of_lt (blk_lt (g := gb148) (o := .cells #[.int .i64 0, .slice none 0 0] 35 (0, 0)) (by exact BK148.out)) : gb148 ≠ gb182))
        have n8_ := Aside0.mk ((by rw [hg]; exact Nat.ne_of_gt (blk_lt (g := gb148) (o := .cells #[.int .i64 0, .slice none 0 0] 35 (0, 0)) (by exact BK148.out)) : gb182 ≠ gb148))
        have n9_ := Aside0.mk ((by rw [hg]; exact Nat.ne_of_lt (blk_lt (g := gb149) (o := .cells #[.int .i64 0, .slice none 0 0] 35 (0, 0)) (by exact BK149.out)) : gb149 ≠ gb182))
        have n10_ := Aside0.mk ((by rw [hg]; exact Nat.ne_of_gt (blk_lt (g := gb149) (o := .cells #[.int .i64 0, .slice none 0 0] 35 (0, 0)) (by exact BK149.out)) : gb182 ≠ gb149))
        clear HO177
        clear BK148
        clear BK149
        clear HB
        have HO177 := n0_
        have BK148 := n1_
        have BK149 := n2_
        have HB := n3_
        have BK182 := n4_
        have GW182 := n5_
        have GE182 := n6_
        have NB148_182 := n7_
        have NB182_148 := n8_
        have NB149_182 := n9_
        have NB182_149 := n10_
        clear n0_ n1_ n2_ n3_ n4_ n5_ n6_ n7_ n8_ n9_ n10_
        clear hb hbox hg
        refine hK.out _ _ ((pw_cell_below HB.out hw174_0)) (fun hHeld => ?_)
        clear hK K
        refine norm_ (a' := ?_) ?_ ?_
        rotate_left
        · show Act.put _ (some 11) _ = _
          simp only [Act.put, sa_, sz_, ss_, i64_w, i32_w]
          rfl
        refine one_ (i := 15) (N := some 93) (bl 19 196607) rfl rfl (one_of HT_.out (by kernel_rfl)) (by decide) (fun K hK => ?_)
        refine Kd.R_append_rows_step (Kd.int .u8) (w0 := w) w.heap.size (by rfl) (.tmp 84) (.tmp 92) 22 5 (.int .u8 0) 1 rfl Try.underlying22 info5 rfl (by decide) (by omega) v176 y175 ((l0.take ((ji63) : Int).toNat).drop ((ji58) : Int).toNat) _ _ _ (fun _ => True) (fun _ => False) rfl rfl ?aO ?aR (fun _ _ h => h) (fun _ h => h.elim) ?aF ?aB ?aS ?aL ?_
        (case aR => ((rw [← show ((l0.take ((ji63) : Int).toNat).drop ((ji58) : Int).toNat).length = ((ji63).toNat - (ji58).toNat) from (by rw [List.length_drop, List.length_take]; have h_ : ((ji63) : Int) ≤ (l0.length : Int) := of_decide_eq_true (by (with_reducible assumption)); omega)]; repeat ((exact (Kd.C_below HR178.out HB.out))))))
        (case aB => exact HB.out)
        (case aF => exact (fun _ _ => trivial))
        (case aO => exact (by exact HO177.out))
        (case aS => exact (below_size HB.out))
        (case aL => have := LMc62.out; (try (rw [hji63] at this)); (try first | rw [hji58] at this); have hlx_ := (show ((l0.take ((ji63) : Int).toNat).drop ((ji58) : Int).toNat).length = ((ji63).toNat - (ji58).toNat) from (by rw [List.length_drop, List.length_take]; have h_ : ((ji63) : Int) ≤ (l0.length : Int) := of_decide_eq_true (by (with_reducible assumption)); omega)); omega)
        intro v180 w73 ho hb hg hat
        rw [← Ny179.out] at ho
        have n0_ := Aside0.mk (blk_grown (g := gb148) (o := .cells #[.int .i64 0, .slice none 0 0] 35 (0, 0)) (by exact BK148.out) hg (Kd.R_ne HO177.out BK148.out (by decide)))
        have n1_ := Aside0.mk (blk_grown (g := gb149) (o := .cells #[.int .i64 0, .slice none 0 0] 35 (0, 0)) (by exact BK149.out) hg (Kd.R_ne HO177.out BK149.out (by decide)))
        have n2_ := Aside0.mk (blk_grown (g := gb182) (o := .cells #[.int .i64 0, .slice none 0 0] 35 (0, 0)) (by exact BK182.out) hg (Kd.R_ne HO177.out BK182.out (by decide)))
        have n3_ := Aside0.mk (hb)
        have n4_ := Aside0.mk (ho)
        clear BK148
        clear BK149
        clear BK182
        clear HB
        clear HO177
        have BK148 := n0_
        have BK149 := n1_
        have BK182 := n2_
        have HB := n3_
        have HO181 := n4_
        clear n0_ n1_ n2_ n3_ n4_
        clear ho hb hg hat
        obtain ⟨Ao74, co74, eo74⟩ := Kd.R_slice HO181.out
        (subst eo74)
        refine hK.out _ _ ((pw_cell_below HB.out hw174_0)) (fun hHeld => ?_)
        clear hK K
        refine norm_ (a' := ?_) ?_ ?_
        rotate_left
        · show Act.put _ (some 93) _ = _
          simp only [Act.put, sa_, sz_, ss_, i64_w, i32_w]
          rfl
        refine pure_ (i := 16) (N := some 94) (v := ?_) (a' := ?_) (bl 19 262143) rfl rfl (any_of HT_.out (by kernel_rfl)) (fun _ _ _ h => h) (Or.inl ⟨by rfl, ?_⟩) ?_ ?_
        rotate_left
        · intro w'; go_simp; with_reducible rfl
        rotate_left
        · simp only [Act.put, sa_, sz_, ss_, i64_w, i32_w]; rfl
        exact norm_ (by simp only [putAll, Act.put, sa_, sz_, ss_]) (hCont (v176, .slice Ao74 y179.length co74, gb182) _ ⟨hHeld, (by exact HO181.out), (by exact BK148.out), (by exact BK149.out), (by exact BK182.out), GW182.out, GE182.out, NB148_182.out, NB182_148.out, NB149_182.out, NB182_149.out, HB.out⟩)
    · skip
      refine box_step ?hg (N := 11) ?hd (cs := #[.int .i64 0, .slice none 0 0]) (t := 35) ?hr ?_; (case hd => rfl); (case hg => rfl); (case hr => (go_simp; done))
      intro gb182 hg w70 hbox hb
      have n0_ := Aside0.mk (blk_below (g := gb148) (o := .cells #[.int .i64 0, .slice none 0 0] 35 (0, 0)) (by exact BK148.out) hb)
      have n1_ := Aside0.mk (blk_below (g := gb149) (o := .cells #[.int .i64 0, .slice none 0 0] 35 (0, 0)) (by exact BK149.out) hb)
      have n2_ := Aside0.mk (below_step HB.out hb)
      have n3_ := Aside0.mk (hbox)
      have n4_ := Aside0.mk ((by rw [hg]; exact (below_size HB.out) : w.heap.size ≤ gb182))
      have n5_ := Aside0.mk ((by rw [hg]; exact (below_size HB.out) : w.heap.size ≤ gb182))
      have n6_ := Aside0.mk ((by rw [hg]; exact Nat.ne_of_lt (blk_lt (g := gb148) (o := .cells #[.int .i64 0, .slice none 0 0] 35 (0, 0)) (by exact BK148.out)) : gb148 ≠ gb182))
      have n7_ := Aside0.mk ((by rw [hg]; exact Nat.ne_of_gt (blk_lt (g := gb148) (o := .cells #[.int .i64 0, .slice none 0 0] 35 (0, 0)) (by exact BK148.out)) : gb182 ≠ gb148))
      have n8_ := Aside0.mk ((by rw [hg]; exact Nat.ne_of_lt (blk_lt (g := gb149) (o := .cells #[.int .i64 0, .slice none 0 0] 35 (0, 0)) (by exact BK149.out)) : gb149 ≠ gb182))
      have n9_ := Aside0.mk ((by rw [hg]; exact Nat.ne_of_gt (blk_lt (g := gb149) (o := .cells #[.int .i64 0, .slice none 0 0] 35 (0, 0)) (by exact BK149.out)) : gb182 ≠ gb149))
      clear BK148
      clear BK149
      clear HB
      have BK148 := n0_
      have BK149 := n1_
      have HB := n2_
      have BK182 := n3_
      have GW182 := n4_
      have GE182 := n5_
      have NB148_182 := n6_
      have NB182_148 := n7_
      have NB149_182 := n8_
      have NB182_149 := n9_
      clear n0_ n1_ n2_ n3_ n4_ n5_ n6_ n7_ n8_ n9_
      clear hb hbox hg
      refine hK.out _ _ ((pw_cell_below HB.out hw174_0)) (fun hHeld => ?_)
      clear hK K
      refine norm_ (a' := ?_) ?_ ?_
      rotate_left
      · show Act.put _ (some 11) _ = _
        simp only [Act.put, sa_, sz_, ss_, i64_w, i32_w]
        rfl
      refine one_ (i := 6) (N := some 84) (bl 19 163839) rfl rfl (one_of HT_.out (by kernel_rfl)) (by decide) (fun K hK => ?_)
      refine Kd.R_lit_step (Kd.int .u8) _ 5 ?hg (N := 84) ?hd (xs := ([] : List Int)) (inner := []) (ok := fun _ => True) (okp := fun _ => True) ?hr ?hp (fun _ hk => hk) trivial (Below.refl _ _) (Nat.le_refl _) (by simp) ?_; (case hd => rfl); (case hg => rfl); (case hr => (go_simp; done)); (case hp => exact (Reps.none _ _))
      intro v176 w71 ho72 hb hg_ hnew_
      clear hg_ hnew_
      (rw [← Ny175.out] at ho72)
      have n0_ := Aside0.mk (Kd.R_lower ho72 (below_size HB.out))
      have n1_ := Aside0.mk (blk_below (g := gb148) (o := .cells #[.int .i64 0, .slice none 0 0] 35 (0, 0)) (by exact BK148.out) hb)
      have n2_ := Aside0.mk (blk_below (g := gb149) (o := .cells #[.int .i64 0, .slice none 0 0] 35 (0, 0)) (by exact BK149.out) hb)
      have n3_ := Aside0.mk (blk_below (g := gb182) (o := .cells #[.int .i64 0, .slice none 0 0] 35 (0, 0)) (by exact BK182.out) hb)
      have n4_ := Aside0.mk (below_step HB.out hb)
      clear BK148
      clear BK149
      clear BK182
      clear HB
      have HO177 := n0_
      have BK148 := n1_
      have BK149 := n2_
      have BK182 := n3_
      have HB := n4_
      clear n0_ n1_ n2_ n3_ n4_
      clear hb ho72
      refine hK.out _ _ ((pw_cell_below HB.out hw174_0)) (fun hHeld => ?_)
      clear hK K
      refine norm_ (a' := ?_) ?_ ?_
      rotate_left
      · show Act.put _ (some 84) _ = _
        simp only [Act.put, sa_, sz_, ss_, i64_w, i32_w]
        rfl
      refine one_ (i := 15) (N := some 93) (bl 19 196607) rfl rfl (one_of HT_.out (by kernel_rfl)) (by decide) (fun K hK => ?_)
      refine Kd.R_append_rows_step (Kd.int .u8) (w0 := w) w.heap.size (by rfl) (.tmp 84) (.tmp 92) 22 5 (.int .u8 0) 1 rfl Try.underlying22 info5 rfl (by decide) (by omega) v176 y175 ((l0.take ((ji63) : Int).toNat).drop ((ji58) : Int).toNat) _ _ _ (fun _ => True) (fun _ => False) rfl rfl ?aO ?aR (fun _ _ h => h) (fun _ h => h.elim) ?aF ?aB ?aS ?aL ?_
      (case aR => ((rw [← show ((l0.take ((ji63) : Int).toNat).drop ((ji58) : Int).toNat).length = ((ji63).toNat - (ji58).toNat) from (by rw [List.length_drop, List.length_take]; have h_ : ((ji63) : Int) ≤ (l0.length : Int) := of_decide_eq_true (by (with_reducible assumption)); omega)]; repeat ((exact (Kd.C_below HR178.out HB.out))))))
      (case aB => exact HB.out)
      (case aF => exact (fun _ _ => trivial))
      (case aO => exact (by exact HO177.out))
      (case aS => exact (below_size HB.out))
      (case aL => have := LMc62.out; (try (rw [hji63] at this)); (try first | rw [hji58] at this); have hlx_ := (show ((l0.take ((ji63) : Int).toNat).drop ((ji58) : Int).toNat).length = ((ji63).toNat - (ji58).toNat) from (by rw [List.length_drop, List.length_take]; have h_ : ((ji63) : Int) ≤ (l0.length : Int) := of_decide_eq_true (by (with_reducible assumption)); omega)); omega)
      intro v180 w73 ho hb hg hat
      rw [← Ny179.out] at ho
      have n0_ := Aside0.mk (blk_grown (g := gb148) (o := .cells #[.int .i64 0, .slice none 0 0] 35 (0, 0)) (by exact BK148.out) hg (Kd.R_ne HO177.out BK148.out (by decide)))
      have n1_ := Aside0.mk (blk_grown (g := gb149) (o := .cells #[.int .i64 0, .slice none 0 0] 35 (0, 0)) (by exact BK149.out) hg (Kd.R_ne HO177.out BK149.out (by decide)))
      have n2_ := Aside0.mk (blk_grown (g := gb182) (o := .cells #[.int .i64 0, .slice none 0 0] 35 (0, 0)) (by exact BK182.out) hg (Kd.R_ne HO177.out BK182.out (by decide)))
      have n3_ := Aside0.mk (hb)
      have n4_ := Aside0.mk (ho)
      clear BK148
      clear BK149
      clear BK182
      clear HB
      clear HO177
      have BK148 := n0_
      have BK149 := n1_
      have BK182 := n2_
      have HB := n3_
      have HO181 := n4_
      clear n0_ n1_ n2_ n3_ n4_
      clear ho hb hg hat
      obtain ⟨Ao74, co74, eo74⟩ := Kd.R_slice HO181.out
      (subst eo74)
      refine hK.out _ _ ((pw_cell_below HB.out hw174_0)) (fun hHeld => ?_)
      clear hK K
      refine norm_ (a' := ?_) ?_ ?_
      rotate_left
      · show Act.put _ (some 93) _ = _
        simp only [Act.put, sa_, sz_, ss_, i64_w, i32_w]
        rfl
      refine pure_ (i := 16) (N := some 94) (v := ?_) (a' := ?_) (bl 19 262143) rfl rfl (any_of HT_.out (by kernel_rfl)) (fun _ _ _ h => h) (Or.inl ⟨by rfl, ?_⟩) ?_ ?_
      rotate_left
      · intro w'; go_simp; with_reducible rfl
      rotate_left
      · simp only [Act.put, sa_, sz_, ss_, i64_w, i32_w]; rfl
      exact norm_ (by simp only [putAll, Act.put, sa_, sz_, ss_]) (hCont (v176, .slice Ao74 y179.length co74, gb182) _ ⟨hHeld, (by exact HO181.out), (by exact BK148.out), (by exact BK149.out), (by exact BK182.out), GW182.out, GE182.out, NB148_182.out, NB182_148.out, NB149_182.out, NB182_149.out, HB.out⟩)
  rintro ⟨v176, v180, gb182⟩ w75 ⟨hS_, h0_, h1_, h2_, h3_, h4_, h5_, h6_, h7_, h8_, h9_, h10_⟩
  have n0_ : Aside0 (Kd.R (Kd.int .u8) 5 w75 w.heap.size (fun _ => True) v180 y179) := ⟨h0_⟩
  have n1_ : Aside0 (w75.heap[gb148]? = some (.cells #[.int .i64 0, .slice none 0 0] 35 (0, 0))) := ⟨h1_⟩
  have n2_ : Aside0 (w75.heap[gb149]? = some (.cells #[.int .i64 0, .slice none 0 0] 35 (0, 0))) := ⟨h2_⟩
  have n3_ : Aside0 (w75.heap[gb182]? = some (.cells #[.int .i64 0, .slice none 0 0] 35 (0, 0))) := ⟨h3_⟩
  have n4_ : Aside0 (w.heap.size ≤ gb182) := ⟨h4_⟩
  have n5_ : Aside0 (w.heap.size ≤ gb182) := ⟨h5_⟩
  have n6_ : Aside0 (gb148 ≠ gb182) := ⟨h6_⟩
  have n7_ : Aside0 (gb182 ≠ gb148) := ⟨h7_⟩
  have n8_ : Aside0 (gb149 ≠ gb182) := ⟨h8_⟩
  have n9_ : Aside0 (gb182 ≠ gb149) := ⟨h9_⟩
  have n10_ : Aside0 (Below w.heap.size w w75) := ⟨h10_⟩
  clear BK148
  clear BK149
  clear HB
  clear h0_ h1_ h2_ h3_ h4_ h5_ h6_ h7_ h8_ h9_ h10_
  have HO181 := n0_
  have BK148 := n1_
  have BK149 := n2_
  have BK182 := n3_
  have GW182 := n4_
  have GE182 := n5_
  have NB148_182 := n6_
  have NB182_148 := n7_
  have NB149_182 := n8_
  have NB182_149 := n9_
  have HB := n10_
  clear n0_ n1_ n2_ n3_ n4_ n5_ n6_ n7_ n8_ n9_ n10_
  have hHeld : w75.cell? (ad166.add (ji43).toNat) = some (.int .u8 (rd l0 (ji43))) := hS_
  obtain ⟨Ao76, co76, eo76⟩ := Kd.R_slice HO181.out
  (subst eo76)
  refine norm_ (a' := ?_) ?_ ?_
  rotate_left
  · simp only [putAll, Act.put, sa_, sz_, ss_]
    rfl
  refine one_ (i := 18) (N := none) (bl 19 524287) rfl rfl (one_of HT_.out (by kernel_rfl)) (by decide) (fun K hK => ?_)
  have hs77 : w75.cell? ⟨gb182, 0, none⟩ = some (.int .i64 0) := (blk_cell BK182.out 0).trans rfl
  have hfs77 := blk_frozen BK182.out 0
  have hns77_0 := NB148_182.out
  have hns77_1 := NB149_182.out
  have hms77_0 := NB182_148.out
  have hms77_1 := NB182_149.out
  have hs78 : w75.cell? ⟨gb182, 1, none⟩ = some (.slice none 0 0) := (blk_cell BK182.out 1).trans rfl
  have hfs78 := blk_frozen BK182.out 1
  have hns78_0 := NB148_182.out
  have hns78_1 := NB149_182.out
  have hms78_0 := NB182_148.out
  have hms78_1 := NB182_149.out
  refine skip_ (w1 := ?_) (by rfl) rfl ?_ ?_
  rotate_left
  · go_simp
    rfl
  refine hK.out _ _ (((cell_far (p := ⟨gb182, _, none⟩) (by (exact Nat.ne_of_lt (Nat.lt_of_lt_of_le (by have := World.block_lt_of_cell? _ _ hw174_0; (exact this)) GW182.out))) _).trans (((cell_far (p := ⟨gb182, _, none⟩) (by (exact Nat.ne_of_lt (Nat.lt_of_lt_of_le (by have := World.block_lt_of_cell? _ _ hw174_0; (exact this)) GW182.out))) _).trans (hHeld))))) (fun hHeld => ?_)
  clear hK K
  refine done_ (done_of HT_.out (by kernel_rfl)) ?_
  try go_wp2
  have n0_ : Aside0 (Kd.R (Kd.int .u8) 5 ((w75.setCell ⟨gb182, 0, none⟩ (.int .i64 (wrap64 (rd l0 (ji43))))).setCell ⟨gb182, 1, none⟩ (.slice Ao76 y179.length co76)) w.heap.size (fun _ => True) (.slice Ao76 y179.length co76) y179) := ⟨by exact Kd.R_mono (Kd.R_far (p := ⟨gb182, 1, none⟩) (Kd.R_far (p := ⟨gb182, 0, none⟩) (Kd.R_types HO181.out BK182.out (by decide)) (fun _ hk => hk.2) (.int .i64 (wrap64 (rd l0 (ji43))))) (fun _ hk => hk.2) (.slice Ao76 y179.length co76)) (fun _ hk => trivial)⟩
  have n1_ : Aside0 (((w75.setCell ⟨gb182, 0, none⟩ (.int .i64 (wrap64 (rd l0 (ji43))))).setCell ⟨gb182, 1, none⟩ (.slice Ao76 y179.length co76)).heap[gb148]? = some (.cells #[.int .i64 0, .slice none 0 0] 35 (0, 0))) := ⟨by refine blk_far ?_ NB148_182.out _; refine blk_far ?_ NB148_182.out _; exact BK148.out⟩
  have n2_ : Aside0 (((w75.setCell ⟨gb182, 0, none⟩ (.int .i64 (wrap64 (rd l0 (ji43))))).setCell ⟨gb182, 1, none⟩ (.slice Ao76 y179.length co76)).heap[gb149]? = some (.cells #[.int .i64 0, .slice none 0 0] 35 (0, 0))) := ⟨by refine blk_far ?_ NB149_182.out _; refine blk_far ?_ NB149_182.out _; exact BK149.out⟩
  have n3_ : Aside0 (((w75.setCell ⟨gb182, 0, none⟩ (.int .i64 (wrap64 (rd l0 (ji43))))).setCell ⟨gb182, 1, none⟩ (.slice Ao76 y179.length co76)).heap[gb182]? = some (.cells #[.int .i64 (wrap64 (rd l0 (ji43))), .slice Ao76 y179.length co76] 35 (0, 0))) := ⟨by refine blk_put (cs := #[.int .i64 (wrap64 (rd l0 (ji43))), .slice none 0 0]) ?_ 1 _ rfl; refine blk_put (cs := #[.int .i64 0, .slice none 0 0]) ?_ 0 _ rfl; exact BK182.out⟩
  have n4_ : Aside0 (Below w.heap.size w ((w75.setCell ⟨gb182, 0, none⟩ (.int .i64 (wrap64 (rd l0 (ji43))))).setCell ⟨gb182, 1, none⟩ (.slice Ao76 y179.length co76))) := ⟨by repeat (with_reducible first | exact HB.out | refine below_set ?_ GE182.out)⟩
  (try clear HO181)
  (try clear BK148)
  (try clear BK149)
  (try clear BK182)
  (try clear HB)
  generalize ((w75.setCell ⟨gb182, 0, none⟩ (.int .i64 (wrap64 (rd l0 (ji43))))).setCell ⟨gb182, 1, none⟩ (.slice Ao76 y179.length co76)) = w79 at n0_ n1_ n2_ n3_ n4_ ⊢
  have HO181 := n0_
  have BK148 := n1_
  have BK149 := n2_
  have BK182 := n3_
  have HB := n4_
  clear n0_ n1_ n2_ n3_ n4_
  have n0_ := Aside0.mk (Kd.R_drew HO181.out)
  have n1_ := Aside0.mk (blk_drew BK148.out)
  have n2_ := Aside0.mk (blk_drew BK149.out)
  have n3_ := Aside0.mk (blk_drew BK182.out)
  have n4_ := Aside0.mk (below_drew1 HB.out)
  clear HO181
  clear BK148
  clear BK149
  clear BK182
  clear HB
  have HO181 := n0_
  have BK148 := n1_
  have BK149 := n2_
  have BK182 := n3_
  have HB := n4_
  clear n0_ n1_ n2_ n3_ n4_
  obtain ⟨i081, hi081, _, hsz81, _⟩ := info_parts info5
  obtain ⟨A81, hcut81, hA81, hC81⟩ := print_mid_of (P := Try.prog) (Value.int .u8) 0 22 5 .i64 .i64 Try.underlying22 hi081 hsz81 (some ad166) c0 l0 (ji63) (wrap64 ((wrap64 (a1 + 36)) + x9_2)) (of_decide_eq_true (by (with_reducible assumption))) (by (omega)) (of_decide_eq_true (by (with_reducible assumption))) HC0.out
  have HR186 := Aside0.mk (Kd.C_of_reads (h1 := fun _ => rfl) (hA81 _ (Kd.reads_of_C HR0.out)))
  have HC186 := Aside0.mk hC81
  clear hA81 hC81 hi081 hsz81
  refine start_ (n := 21) (S := fun w' => w'.cell? ⟨gb182, 0, none⟩ = some (.int .i64 (wrap64 (rd l0 (ji43)))) ∧ w'.cell? ⟨gb182, 1, none⟩ = some (.slice Ao76 y179.length co76)) (ds := []) (bl 21 0) (by kernel_rfl) rfl rfl ⟨(blk_cell BK182.out 0).trans rfl, (blk_cell BK182.out 1).trans rfl⟩ (fun hHeld => ?_); refine with_tabW notaryref46_Read.tab20 notaryref46_Read.bits20 (fun HT_ HW_ => ?_)
  generalize w79.drew = w80 at HO181 BK148 BK149 BK182 HB HR186 hHeld ⊢
  refine pure_ (i := 2) (N := some 97) (v := ?_) (a' := ?_) (bl 21 4) rfl rfl (any_of HT_.out (by kernel_rfl)) (fun _ _ _ h => h) (Or.inl ⟨by rfl, ?_⟩) ?_ ?_
  rotate_left
  · intro w'; go_simp; with_reducible rfl
  rotate_left
  · simp only [Act.put, sa_, sz_, ss_, i64_w, i32_w]; rfl
  refine pure_ (i := 3) (N := some 98) (v := ?_) (a' := ?_) (bl 21 12) rfl rfl (any_of HT_.out (by kernel_rfl)) (fun _ _ _ h => h) (Or.inl ⟨by rfl, ?_⟩) ?_ ?_
  rotate_left
  · intro w'; go_simp; with_reducible rfl
  rotate_left
  · simp only [Act.put, sa_, sz_, ss_, i64_w, i32_w]; rfl
  refine pure_ (i := 4) (N := some 99) (v := ?_) (a' := ?_) (bl 21 28) rfl rfl (any_of HT_.out (by kernel_rfl)) (fun _ _ _ h => h) (Or.inl ⟨by rfl, ?_⟩) ?_ ?_
  rotate_left
  · intro w'; go_simp; with_reducible rfl
  rotate_left
  · simp only [Act.put, sa_, sz_, ss_, i64_w, i32_w]; rfl
  refine pure_ (i := 5) (N := some 100) (v := ?_) (a' := ?_) (bl 21 60) rfl rfl (any_of HT_.out (by kernel_rfl)) (fun _ _ _ h => h) (Or.inl ⟨by rfl, ?_⟩) ?_ ?_
  rotate_left
  · intro w'; go_simp; with_reducible rfl
  rotate_left
  · simp only [Act.put, sa_, sz_, ss_, i64_w, i32_w]; rfl
  refine pure_ (i := 6) (N := some 101) (v := ?_) (a' := ?_) (bl 21 124) rfl rfl (any_of HT_.out (by kernel_rfl)) (fun _ _ _ h => h) (Or.inl ⟨by rfl, ?_⟩) ?_ ?_
  rotate_left
  · intro w'; go_simp; with_reducible rfl
  rotate_left
  · simp only [Act.put, sa_, sz_, ss_, i64_w, i32_w]; rfl
  refine pure_ (i := 7) (N := some 102) (v := ?_) (a' := ?_) (bl 21 252) rfl rfl (any_of HT_.out (by kernel_rfl)) (fun _ _ _ h => h) (Or.inl ⟨by rfl, ?_⟩) ?_ ?_
  rotate_left
  · intro w'; go_simp; with_reducible rfl
  rotate_left
  · simp only [Act.put, sa_, sz_, ss_, i64_w, i32_w]; rfl
  refine pure_ (i := 8) (N := some 103) (v := ?_) (a' := ?_) (bl 21 508) rfl rfl (any_of HT_.out (by kernel_rfl)) (fun _ _ _ h => h) (Or.inl ⟨by rfl, ?_⟩) ?_ ?_
  rotate_left
  · intro w'; go_simp; with_reducible rfl
  rotate_left
  · simp only [Act.put, sa_, sz_, ss_, i64_w, i32_w]; rfl
  refine pure_ (i := 9) (N := some 104) (v := ?_) (a' := ?_) (bl 21 1020) rfl rfl (any_of HT_.out (by kernel_rfl)) (fun _ _ _ h => h) (Or.inl ⟨by rfl, ?_⟩) ?_ ?_
  rotate_left
  · intro w'; go_simp; with_reducible rfl
  rotate_left
  · simp only [Act.put, sa_, sz_, ss_, i64_w, i32_w]; rfl
  refine pure_ (i := 10) (N := some 105) (v := ?_) (a' := ?_) (bl 21 2044) rfl rfl (any_of HT_.out (by kernel_rfl)) (fun _ _ _ h => h) (Or.inl ⟨by rfl, ?_⟩) ?_ ?_
  rotate_left
  · intro w'; go_simp; with_reducible rfl
  rotate_left
  · simp only [Act.put, sa_, sz_, ss_, i64_w, i32_w]; rfl
  refine pure_ (i := 11) (N := some 106) (v := ?_) (a' := ?_) (bl 21 4092) rfl rfl (any_of HT_.out (by kernel_rfl)) (fun _ _ _ h => h) (Or.inl ⟨by rfl, ?_⟩) ?_ ?_
  rotate_left
  · intro w'; go_simp; with_reducible rfl
  rotate_left
  · simp only [Act.put, sa_, sz_, ss_, i64_w, i32_w]; rfl
  refine pure_ (i := 13) (N := some 108) (v := ?_) (a' := ?_) (bl 21 12284) rfl rfl (any_of HT_.out (by kernel_rfl)) (fun _ _ _ h => h) (Or.inl ⟨by rfl, ?_⟩) ?_ ?_
  rotate_left
  · intro w'; go_simp; with_reducible rfl
  rotate_left
  · simp only [Act.put, sa_, sz_, ss_, i64_w, i32_w]; rfl
  refine pure_ (i := 14) (N := some 109) (v := ?_) (a' := ?_) (bl 21 28668) rfl rfl (any_of HT_.out (by kernel_rfl)) (fun _ _ _ h => h) (Or.inl ⟨by rfl, ?_⟩) ?_ ?_
  rotate_left
  · intro w'; go_simp; with_reducible rfl
  rotate_left
  · simp only [Act.put, sa_, sz_, ss_, i64_w, i32_w]; rfl
  refine pure_ (i := 15) (N := some 110) (v := ?_) (a' := ?_) (bl 21 61436) rfl rfl (any_of HT_.out (by kernel_rfl)) (fun _ _ _ h => h) (Or.inl ⟨by rfl, ?_⟩) ?_ ?_
  rotate_left
  · intro w'; go_simp; with_reducible rfl
  rotate_left
  · simp only [Act.put, sa_, sz_, ss_, i64_w, i32_w]; rfl
  refine pure_ (i := 16) (N := some 111) (v := ?_) (a' := ?_) (bl 21 126972) rfl rfl (any_of HT_.out (by kernel_rfl)) (fun _ _ _ h => h) (Or.inl ⟨by rfl, ?_⟩) ?_ ?_
  rotate_left
  · intro w'; go_simp; with_reducible rfl
  rotate_left
  · simp only [Act.put, sa_, sz_, ss_, i64_w, i32_w]; rfl
  refine take_ (i := 0) (N := some 95) (v := ?_) (a' := ?_) (bl 21 126973) rfl rfl (take_ofW HT_.out HW_.out (by kernel_rfl)) (fun _ _ _ h => h) (Or.inl ⟨by rfl, ?_⟩) hHeld ?_ ?_
  rotate_left
  · rintro w' ⟨s0, s1⟩
    go_simp
    with_reducible rfl
  rotate_left
  · simp only [Act.put, sa_, sz_, ss_, i64_w, i32_w]; rfl
  refine one_ (i := 1) (N := some 96) (bl 21 126975) rfl rfl (one_of HT_.out (by kernel_rfl)) (by decide) (fun K hK => ?_)
  refine Kd.R_lit_step (Kd.int .u8) _ 5 ?hg (N := 96) ?hd (xs := ([] : List Int)) (inner := []) (ok := fun _ => True) (okp := fun _ => True) ?hr ?hp (fun _ hk => hk) trivial (Below.refl _ _) (Nat.le_refl _) (by simp) ?_; (case hd => rfl); (case hg => rfl); (case hr => (go_simp; done)); (case hp => exact (Reps.none _ _))
  intro v184 w82 ho83 hb hg_ hnew_
  clear hg_ hnew_
  (rw [← Ny183.out] at ho83)
  have n0_ := Aside0.mk (Kd.R_elder' (by exact HO181.out) (Kd.R_base ho83) hb)
  have n1_ := Aside0.mk (Kd.R_lower (Kd.R_new' ho83 (Kd.R_lt (by exact HO181.out))) (below_size HB.out))
  have n2_ := Aside0.mk (blk_below (g := gb148) (o := .cells #[.int .i64 0, .slice none 0 0] 35 (0, 0)) (by exact BK148.out) hb)
  have n3_ := Aside0.mk (blk_below (g := gb149) (o := .cells #[.int .i64 0, .slice none 0 0] 35 (0, 0)) (by exact BK149.out) hb)
  have n4_ := Aside0.mk (blk_below (g := gb182) (o := .cells #[.int .i64 (wrap64 (rd l0 (ji43))), .slice Ao76 y179.length co76] 35 (0, 0)) (by exact BK182.out) hb)
  have n5_ := Aside0.mk (below_step HB.out hb)
  clear HO181
  clear BK148
  clear BK149
  clear BK182
  clear HB
  have HO181 := n0_
  have HO185 := n1_
  have BK148 := n2_
  have BK149 := n3_
  have BK182 := n4_
  have HB := n5_
  clear n0_ n1_ n2_ n3_ n4_ n5_
  clear hb ho83
  refine hK.out _ _ ⟨(blk_cell BK182.out 0).trans rfl, (blk_cell BK182.out 1).trans rfl⟩ (fun hHeld => ?_)
  clear hK K
  refine norm_ (a' := ?_) ?_ ?_
  rotate_left
  · show Act.put _ (some 96) _ = _
    simp only [Act.put, sa_, sz_, ss_, i64_w, i32_w]
    rfl
  refine one_ (i := 12) (N := some 107) (bl 21 131071) rfl rfl (one_of HT_.out (by kernel_rfl)) (by decide) (fun K hK => ?_)
  refine Kd.R_append_rows_step (Kd.int .u8) (w0 := w) w.heap.size (by rfl) (.tmp 96) (.tmp 106) 22 5 (.int .u8 0) 1 rfl Try.underlying22 info5 rfl (by decide) (by omega) v184 y183 ((l0.take ((wrap64 ((wrap64 (a1 + 36)) + x9_2)) : Int).toNat).drop ((ji63) : Int).toNat) _ _ _ (fun k_ => some k_ ≠ (.slice Ao76 y179.length co76 : Value).ownBlock) (fun _ => False) rfl rfl ?aO ?aR (fun _ _ h => h) (fun _ h => h.elim) ?aF ?aB ?aS ?aL ?_
  (case aR => ((rw [← show ((l0.take ((wrap64 ((wrap64 (a1 + 36)) + x9_2)) : Int).toNat).drop ((ji63) : Int).toNat).length = ((wrap64 ((wrap64 (a1 + 36)) + x9_2)).toNat - (ji63).toNat) from (by rw [List.length_drop, List.length_take]; have h_ : ((wrap64 ((wrap64 (a1 + 36)) + x9_2)) : Int) ≤ (l0.length : Int) := of_decide_eq_true (by (with_reducible assumption)); omega)]; repeat ((exact (Kd.C_below HR186.out HB.out))))))
  (case aB => exact HB.out)
  (case aF => exact (fun k_ hk => Kd.fresh' (Kd.R_lt (by exact HO181.out)) k_ hk))
  (case aO => exact (by exact Kd.R_mono HO185.out (fun _ hk => hk.2)))
  (case aS => exact (below_size HB.out))
  (case aL => have := LMc67.out; have hlx_ := (show ((l0.take ((wrap64 ((wrap64 (a1 + 36)) + x9_2)) : Int).toNat).drop ((ji63) : Int).toNat).length = ((wrap64 ((wrap64 (a1 + 36)) + x9_2)).toNat - (ji63).toNat) from (by rw [List.length_drop, List.length_take]; have h_ : ((wrap64 ((wrap64 (a1 + 36)) + x9_2)) : Int) ≤ (l0.length : Int) := of_decide_eq_true (by (with_reducible assumption)); omega)); omega)
  intro v188 w84 ho hb hg hat
  rw [← Ny187.out] at ho
  have n0_ := Aside0.mk (blk_grown (g := gb148) (o := .cells #[.int .i64 0, .slice none 0 0] 35 (0, 0)) (by exact BK148.out) hg (Kd.R_ne HO185.out BK148.out (by decide)))
  have n1_ := Aside0.mk (blk_grown (g := gb149) (o := .cells #[.int .i64 0, .slice none 0 0] 35 (0, 0)) (by exact BK149.out) hg (Kd.R_ne HO185.out BK149.out (by decide)))
  have n2_ := Aside0.mk (Kd.R_after (ok := (fun _ => True)) (by exact HO181.out) hg hat)
  have n3_ := Aside0.mk (blk_grown (g := gb182) (o := .cells #[.int .i64 (wrap64 (rd l0 (ji43))), .slice Ao76 y179.length co76] 35 (0, 0)) (by exact BK182.out) hg (Kd.R_ne HO185.out BK182.out (by decide)))
  have n4_ := Aside0.mk (hb)
  have n5_ := Aside0.mk (ho)
  clear BK148
  clear BK149
  clear HO181
  clear BK182
  clear HB
  clear HO185
  have BK148 := n0_
  have BK149 := n1_
  have HO181 := n2_
  have BK182 := n3_
  have HB := n4_
  have HO189 := n5_
  clear n0_ n1_ n2_ n3_ n4_ n5_
  clear ho hb hg hat
  refine hK.out _ _ ⟨(blk_cell BK182.out 0).trans rfl, (blk_cell BK182.out 1).trans rfl⟩ (fun hHeld => ?_)
  clear hK K
  refine norm_ (a' := ?_) ?_ ?_
  rotate_left
  · show Act.put _ (some 107) _ = _
    simp only [Act.put, sa_, sz_, ss_, i64_w, i32_w]
    rfl
  refine one_ (i := 17) (N := none) (bl 21 262143) rfl rfl (one_of HT_.out (by kernel_rfl)) (by decide) (fun K hK => ?_)
  have hs85 : w84.cell? ⟨gb148, 0, none⟩ = some (.int .i64 0) := (blk_cell BK148.out 0).trans rfl
  have hfs85 := blk_frozen BK148.out 0
  have hns85_1 := NB149_148.out
  have hns85_2 := NB182_148.out
  have hms85_1 := NB148_149.out
  have hms85_2 := NB148_182.out
  have hs86 : w84.cell? ⟨gb148, 1, none⟩ = some (.slice none 0 0) := (blk_cell BK148.out 1).trans rfl
  have hfs86 := blk_frozen BK148.out 1
  have hns86_1 := NB149_148.out
  have hns86_2 := NB182_148.out
  have hms86_1 := NB148_149.out
  have hms86_2 := NB148_182.out
  refine skip_ (w1 := ?_) (by rfl) rfl ?_ ?_
  rotate_left
  · go_simp
    rfl
  refine hK.out _ _ ⟨((cell_far (p := ⟨gb148, _, none⟩) NB182_148.out _).trans (((cell_far (p := ⟨gb148, _, none⟩) NB182_148.out _).trans (hHeld.1)))), ((cell_far (p := ⟨gb148, _, none⟩) NB182_148.out _).trans (((cell_far (p := ⟨gb148, _, none⟩) NB182_148.out _).trans (hHeld.2))))⟩ (fun hHeld => ?_)
  clear hK K
  refine pure_ (i := 18) (N := some 5) (v := ?_) (a' := ?_) (bl 21 524287) rfl rfl (any_of HT_.out (by kernel_rfl)) (fun _ _ _ h => h) (Or.inl ⟨by rfl, ?_⟩) ?_ ?_
  rotate_left
  · intro w'; go_simp; with_reducible rfl
  rotate_left
  · simp only [Act.put, sa_, sz_, ss_, i64_w, i32_w]; rfl
  refine pure_ (i := 19) (N := some 6) (v := ?_) (a' := ?_) (bl 21 1048575) rfl rfl (any_of HT_.out (by kernel_rfl)) (fun _ _ _ h => h) (Or.inl ⟨by rfl, ?_⟩) ?_ ?_
  rotate_left
  · intro w'; go_simp; with_reducible rfl
  rotate_left
  · simp only [Act.put, sa_, sz_, ss_, i64_w, i32_w]; rfl
  refine pure_ (i := 20) (N := some 7) (v := ?_) (a' := ?_) (bl 21 2097151) rfl rfl (any_of HT_.out (by kernel_rfl)) (fun _ _ _ h => h) (Or.inl ⟨by rfl, ?_⟩) ?_ ?_
  rotate_left
  · intro w'; go_simp; with_reducible rfl
  rotate_left
  · simp only [Act.put, sa_, sz_, ss_, i64_w, i32_w]; rfl
  refine done_ (done_of HT_.out (by kernel_rfl)) ?_
  try go_wp2
  refine bodyPost_ret (results_list (rs := [.cell 4 35, .tmp 5, .tmp 6, .tmp 7]) rfl (by simp) (.cell gb148 35 #[.int .i64 (wrap64 (rd l0 (ji43))), .slice Ao76 y179.length co76] (0, 0) _ rfl (by refine blk_put (cs := #[.int .i64 (wrap64 (rd l0 (ji43))), .slice none 0 0]) ?_ 1 _ rfl; refine blk_put (cs := #[.int .i64 0, .slice none 0 0]) ?_ 0 _ rfl; exact BK148.out) Try.underlying35 rfl (by kernel_rfl) (.tmp (.tmp (.tmp .nil))))) rfl ?_
  exact ⟨_, _, by (rfl), by exact Kd.R_mono (Kd.R_far (p := ⟨gb148, 1, none⟩) (Kd.R_far (p := ⟨gb148, 0, none⟩) (Kd.R_types HO181.out BK148.out (by decide)) (fun _ hk => hk.2) (.int .i64 (wrap64 (rd l0 (ji43))))) (fun _ hk => hk.2) (.slice Ao76 y179.length co76)) (fun _ hk => hk.1.2), by exact Kd.R_mono (Kd.R_far (p := ⟨gb148, 1, none⟩) (Kd.R_far (p := ⟨gb148, 0, none⟩) (Kd.R_types HO189.out BK148.out (by decide)) (fun _ hk => hk.2) (.int .i64 (wrap64 (rd l0 (ji43))))) (fun _ hk => hk.2) (.slice Ao76 y179.length co76)) (fun _ hk => hk.1), by repeat (with_reducible first | exact HB.out | refine below_set ?_ GE148.out)⟩
end Go.Proofs.Ytogjnipojakfjaa.PJr
