-- SLIM: a printed text of which the unused ways are cut off
-- PRINTED by print.py (a twelfth state) out of the translation. Not trusted: Lean checks it.
import Derived.Test.YtogjnipojakfjaaPJdx0
namespace Go.Proofs.Ytogjnipojakfjaa.PJd
open Go.RowKit Go.Proofs.YtogjnipojakfjaaW.PrintWords Go.Proofs.YtogjnipojakfjaaW.PrintLast Go.Proofs.YtogjnipojakfjaaW.PrintMore
attribute [local go_sem] max2_int min2_int max_two min_two max_three min_three max_four min_four   -- for this text's walks alone
set_option linter.unusedVariables false
set_option linter.unusedSimpArgs false

/-! ### notaryref46_Read: function 43 -/
mutual
def notaryref46_Read.j0 : Nat → List Int → Int → Bool → Int → Option (Int × List Int × List Int × Int × Int)
  | 0, _, _, _, _ => none
  | k + 1, x0, x1, x20, x401000 => if x20 = true then (some (x401000, ([] : List Int), ([] : List Int), 0, 13)) else (if (wrap64 ((x0.length : Int) - x1)) < 4 then (some (x401000, ([] : List Int), ([] : List Int), 0, 1)) else (notaryref46_Read.l0 k x0 x1 0 0 x401000))
def notaryref46_Read.l0 : Nat → List Int → Int → Int → Int → Int → Option (Int × List Int × List Int × Int × Int)
  | 0, _, _, _, _, _ => none
  | k + 1, x0, x1, x9, x10, x401000 => if x10 < 4 then (if 0 ≤ (wrap64 (x1 + x10)) then (if (wrap64 (x1 + x10)) < (x0.length : Int) then (notaryref46_Read.l0 k x0 x1 (wrap64 ((wrap64 (x9 * 256)) + (wrap64 (rd x0 (wrap64 (x1 + x10)))))) (wrap64 (x10 + 1)) x401000) else (none)) else (none)) else (if x9 = 0 then (some (x401000, ([] : List Int), ([] : List Int), 0, 2)) else (if x9 > 1025 then (some (x401000, ([] : List Int), ([] : List Int), 0, 3)) else (if (wrap64 ((x0.length : Int) - x1)) < (wrap64 ((wrap64 (4 + x9)) + 32)) then (some (x401000, ([] : List Int), ([] : List Int), 0, 1)) else (if 0 ≤ (wrap64 (x1 + 4)) then (if (wrap64 (x1 + 4)) < (x0.length : Int) then (if (rd x0 (wrap64 (x1 + 4))) < 1 then (some (x401000, ([] : List Int), ([] : List Int), 0, 23)) else (if (rd x0 (wrap64 (x1 + 4))) > 3 then (some (x401000, ([] : List Int), ([] : List Int), 0, 23)) else ((some (([] : List Int) : List Int)).bind fun y426 => (if 0 ≤ (wrap64 (x1 + 5)) then (if (wrap64 (x1 + 5)) ≤ (wrap64 ((wrap64 (x1 + 4)) + x9)) then (if (wrap64 ((wrap64 (x1 + 4)) + x9)) ≤ (x0.length : Int) then (if y426.length + ((x0.take ((wrap64 ((wrap64 (x1 + 4)) + x9)) : Int).toNat).drop ((wrap64 (x1 + 5)) : Int).toNat).length < 140737488355328 then ((some (([] : List Int) : List Int)).bind fun y434 => (if 0 ≤ (wrap64 ((wrap64 (x1 + 4)) + x9)) then (if (wrap64 ((wrap64 (x1 + 4)) + x9)) ≤ (wrap64 ((wrap64 (x1 + 36)) + x9)) then (if (wrap64 ((wrap64 (x1 + 36)) + x9)) ≤ (x0.length : Int) then (if y434.length + ((x0.take ((wrap64 ((wrap64 (x1 + 36)) + x9)) : Int).toNat).drop ((wrap64 ((wrap64 (x1 + 4)) + x9)) : Int).toNat).length < 140737488355328 then (some (wrap64 (rd x0 (wrap64 (x1 + 4))), (y426 ++ ((x0.take ((wrap64 ((wrap64 (x1 + 4)) + x9)) : Int).toNat).drop ((wrap64 (x1 + 5)) : Int).toNat)), (y434 ++ ((x0.take ((wrap64 ((wrap64 (x1 + 36)) + x9)) : Int).toNat).drop ((wrap64 ((wrap64 (x1 + 4)) + x9)) : Int).toNat)), wrap64 ((wrap64 (x1 + 36)) + x9), 0)) else (none)) else (none)) else (none)) else (none))) else (none)) else (none)) else (none)) else (none))))) else (none)) else (none)))))
end
def notaryref46_Read.f (k : Nat) (l0 : List Int) (a1 : Int) : Option (Int × List Int × List Int × Int × Int) := if a1 < 0 then (notaryref46_Read.j0 k l0 a1 true 0) else (notaryref46_Read.j0 k l0 a1 (decide (a1 > (l0.length : Int))) 0)
def notaryref46_Read.T19 : Bool × List (List Nat × List Nat) := (true, [([], []), ([], []), ([1], [1]), ([0, 2], [0, 2]), ([3], [3]), ([4], [4]), ([], []), ([], []), ([], []), ([8], [8]), ([], []), ([10], [10]), ([], []), ([11, 12], [11, 12]), ([7, 9, 13], [7, 9, 13]), ([6, 14], [6, 14]), ([5, 15], [5, 15]), ([], []), ([17, 16, 15, 0, 1, 2, 3, 4, 5, 6, 7, 8, 9, 10, 11, 12, 13, 14, 15, 16, 17], [16, 17])])
def notaryref46_Read.B19 : List Nat := [0, 0, 2, 7, 15, 31, 0, 0, 0, 256, 0, 1024, 0, 7168, 16256, 32704, 65535, 0, 262143]
theorem notaryref46_Read.tab19 : rtab .any (opsOf Try.f43 19) = notaryref46_Read.T19 := by kernel_rfl
theorem notaryref46_Read.bits19 : waitsOk notaryref46_Read.T19.2 notaryref46_Read.B19 = true := by kernel_rfl
def notaryref46_Read.T20 : Bool × List (List Nat × List Nat) := (true, [([], []), ([], []), ([], []), ([], []), ([3], [3]), ([], []), ([4, 5], [4, 5]), ([], []), ([7], [7]), ([], []), ([8, 9], [8, 9]), ([2, 6, 10], [2, 6, 10]), ([1, 11], [1, 11]), ([], []), ([13], [13]), ([], []), ([14, 15], [14, 15]), ([0, 12, 0], [0]), ([12, 17, 0, 1, 2, 3, 4, 5, 6, 7, 8, 9, 10, 11, 12, 17], [12]), ([16, 18, 0, 1, 2, 3, 4, 5, 6, 7, 8, 9, 10, 11, 12, 13, 14, 15, 16, 17, 18], [16]), ([19, 0, 1, 2, 3, 4, 5, 6, 7, 8, 9, 10, 11, 12, 13, 14, 15, 16, 17, 18, 19], [])])
def notaryref46_Read.B20 : List Nat := [0, 0, 0, 0, 8, 0, 56, 0, 128, 0, 896, 2044, 4094, 0, 8192, 0, 57344, 8191, 139263, 524287, 1048575]
theorem notaryref46_Read.tab20 : rtab .any (opsOf Try.f43 20) = notaryref46_Read.T20 := by kernel_rfl
theorem notaryref46_Read.bits20 : waitsOk notaryref46_Read.T20.2 notaryref46_Read.B20 = true := by kernel_rfl
set_option maxHeartbeats 8000000 in
set_option maxRecDepth 100000 in
theorem notaryref46_Read.calls (k : Nat) (A0 : Option Addr) (c0 : Nat) (l0 : List Int) (a1 : Int) (r1 : Int) (r2 : List Int) (r3 : List Int) (r4 : Int) (r5 : Int) (w : World) (hr0 : Kd.C (Kd.int .u8) w A0 l0.length l0) (hc0 : l0.length ≤ c0) (h : notaryref46_Read.f k l0 a1 = some (r1, r2, r3, r4, r5)) :
    Calls Try.prog 43 #[.slice A0 l0.length c0, .int .i64 a1] w fun e w' => ∃ v1_ v2_ : Value, e = .returned (.tuple #[.agg #[.int .i64 r1, v1_], v2_, .int .i64 r4, .int .i64 r5]) ∧ Kd.R (Kd.int .u8) 5 w' w.heap.size (fun k_ => some k_ ≠ (v2_ : Value).ownBlock) v1_ r2 ∧ Kd.R (Kd.int .u8) 5 w' w.heap.size (fun k_ => some k_ ≠ (v1_ : Value).ownBlock) v2_ r3 ∧ Below w.heap.size w w' := by
  have hu35 := Try.underlying35
  have HR0 := Aside0.mk hr0
  have HC0 := Aside0.mk hc0
  clear hr0 hc0
  have HB := Aside0.mk (Below.refl w.heap.size w)
  have H : (if a1 < 0 then (notaryref46_Read.j0 k l0 a1 true 0) else (notaryref46_Read.j0 k l0 a1 (decide (a1 > (l0.length : Int))) 0)) = some (r1, r2, r3, r4, r5) := h
  clear h
  have HC3 := Aside0.mk H
  clear H
  go_enter Try.func43, Try.ntmps43
  go_upto_region 2 with (first | ((with_reducible refine gate_dst (N := 4) rfl ?_); (try (refine gate_guard (by rfl) ?_; dsimp only)); refine box_event ?hg (N := 4) ?hd (cs := #[.int .i64 0, .slice none 0 0]) (t := 35) ?hr ?_; (case hd => rfl); (case hg => rfl); (case hr => (go_simp; done)); intro gb399 hg w4 hbox hb; have n0_ := Aside0.mk (below_step HB.out hb); have n1_ := Aside0.mk (hbox); have n2_ := Aside0.mk ((by rw [hg]; exact (below_size HB.out) : w.heap.size ≤ gb399)); have n3_ := Aside0.mk ((by rw [hg]; exact (below_size HB.out) : w.heap.size ≤ gb399)); clear HB; have HB := n0_; have BK399 := n1_; have GW399 := n2_; have GE399 := n3_; clear n0_ n1_ n2_ n3_; clear hb hbox hg) | ((with_reducible refine gate_dst (N := 8) rfl ?_); (try (refine gate_guard (by rfl) ?_; dsimp only)); refine box_event ?hg (N := 8) ?hd (cs := #[.int .i64 0, .slice none 0 0]) (t := 35) ?hr ?_; (case hd => rfl); (case hg => rfl); (case hr => (go_simp; done)); intro gb400 hg w5 hbox hb; have n0_ := Aside0.mk (blk_below (g := gb399) (o := .cells #[.int .i64 0, .slice none 0 0] 35 (0, 0)) (by exact BK399.out) hb); have n1_ := Aside0.mk (below_step HB.out hb); have n2_ := Aside0.mk (hbox); have n3_ := Aside0.mk ((by rw [hg]; exact (below_size HB.out) : w.heap.size ≤ gb400)); have n4_ := Aside0.mk ((by rw [hg]; exact (below_size HB.out) : w.heap.size ≤ gb400)); have n5_ := Aside0.mk ((by rw [hg]; exact Nat.ne_of_lt (blk_lt (g := gb399) (o := .cells #[.int .i64 0, .slice none 0 0] 35 (0, 0)) (by exact BK399.out)) : gb399 ≠ gb400)); have n6_ := Aside0.mk ((by rw [hg]; exact Nat.ne_of_gt (blk_lt (g := gb399) (o := .cells #[.int .i64 0, .slice none 0 0] 35 (0, 0)) (by exact BK399.out)) : gb400 ≠ gb399)); clear BK399; clear HB; have BK399 := n0_; have HB := n1_; have BK400 := n2_; have GW400 := n3_; have GE400 := n4_; have NB399_400 := n5_; have NB400_399 := n6_; clear n0_ n1_ n2_ n3_ n4_ n5_ n6_; clear hb hbox hg; have hnb6 := NB400_399.out; have hnc6 := NB399_400.out; have hcz7_0 : w5.cell? ⟨gb400, 0, none⟩ = some (.int .i64 0) := (blk_cell BK400.out 0).trans rfl; have hcz7_1 : w5.cell? ⟨gb400, 1, none⟩ = some (.slice none 0 0) := (blk_cell BK400.out 1).trans rfl; have hfz7_0 := blk_frozen BK400.out 0; have hfz7_1 := blk_frozen BK400.out 1))
  (skip)
  go_cut [20] (fun v20 wc => ∃ (kq : Nat) (x20_2 : Bool), v20 = .bool x20_2 ∧ Aside0 (notaryref46_Read.j0 kq l0 a1 x20_2 0 = some (r1, r2, r3, r4, r5)) ∧ Aside0 (kq ≤ k) ∧ Aside0 (wc.heap[gb399]? = some (.cells #[.int .i64 0, (.slice none 0 0)] 35 (0, 0))) ∧ Aside0 (wc.heap[gb400]? = some (.cells #[.int .i64 0, (.slice none 0 0)] 35 (0, 0))) ∧ Aside0 (Below w.heap.size w wc))
  case first =>
    have H := HC3.out
    clear HC3
    by_cases c8 : a1 < 0
    · rw [if_pos c8] at H
      have c8b0 : decide (a1 < 0) = true := decide_eq_true c8
      clear c8
      (skip)
      have H' := Aside0.mk H
      clear H
      go_wp2
      go_meet
      case rel => exact ⟨_, (true), (by (rfl)), H', ⟨by (omega)⟩, ⟨by refine blk_far ?_ NB399_400.out _; refine blk_far ?_ NB399_400.out _; exact BK399.out⟩, ⟨by refine blk_put (cs := #[.int .i64 0, .slice none 0 0]) ?_ 1 _ rfl; refine blk_put (cs := #[.int .i64 0, .slice none 0 0]) ?_ 0 _ rfl; exact BK400.out⟩, ⟨by repeat (with_reducible first | exact HB.out | refine below_set ?_ GE400.out)⟩⟩
    rw [if_neg c8] at H
    have c8b0 : decide (a1 < 0) = false := decide_eq_false c8
    clear c8
    (skip)
    have H' := Aside0.mk H
    clear H
    go_wp2
    go_meet
    case rel => exact ⟨_, (decide (a1 > (l0.length : Int))), (by (rfl)), H', ⟨by (omega)⟩, ⟨by refine blk_far ?_ NB399_400.out _; refine blk_far ?_ NB399_400.out _; exact BK399.out⟩, ⟨by refine blk_put (cs := #[.int .i64 0, .slice none 0 0]) ?_ 1 _ rfl; refine blk_put (cs := #[.int .i64 0, .slice none 0 0]) ?_ 0 _ rfl; exact BK400.out⟩, ⟨by repeat (with_reducible first | exact HB.out | refine below_set ?_ GE400.out)⟩⟩
  clear HC3
  try clear hcz7_0
  try clear hcz7_1
  try clear hfz7_0
  try clear hfz7_1
  obtain ⟨kq, x20_2, rfl, HA, HJ2, BK399, BK400, HB⟩ := hcut
  rcases kq with _ | kj2
  · exact absurd HA.out (by simp [notaryref46_Read.j0])
  have H := HA.out
  clear HA
  simp only [notaryref46_Read.j0] at H
  by_cases c9 : x20_2 = true
  · subst c9
    have H1 : (some (0, ([] : List Int), ([] : List Int), 0, 13)) = some (r1, r2, r3, r4, r5) := by rw [if_pos rfl] at H; exact H
    clear H
    have H := H1
    clear H1
    obtain ⟨y401, hy401⟩ : ∃ y_ : List Int, y_ = ([] : List Int) := ⟨_, rfl⟩
    replace H : (some (0, ([] : List Int), y401, 0, 13)) = some (r1, r2, r3, r4, r5) := by (rw [hy401]; with_reducible exact H)
    have Ny401 := Aside0.mk hy401
    clear hy401
    simp only [Option.some.injEq, Prod.mk.injEq] at H
    obtain ⟨rfl, rfl, rfl, rfl, rfl⟩ := H
    have hnb10 := NB400_399.out
    have hnc10 := NB399_400.out
    have hcz11_0 : wc.cell? ⟨gb400, 0, none⟩ = some (.int .i64 0) := (blk_cell BK400.out 0).trans rfl
    have hcz11_1 : wc.cell? ⟨gb400, 1, none⟩ = some (.slice none 0 0) := (blk_cell BK400.out 1).trans rfl
    have hfz11_0 := blk_frozen BK400.out 0
    have hfz11_1 := blk_frozen BK400.out 1
    go_wp2_with ((((with_reducible refine gate_dst (N := 22) rfl ?_); (try (refine gate_guard (by rfl) ?_; dsimp only)); refine Kd.R_lit (Kd.int .u8) _ 5 ?hg (N := 22) ?hd (xs := ([] : List Int)) (inner := []) (ok := fun _ => True) (okp := fun _ => True) ?hr ?hp (fun _ hk => hk) trivial (Below.refl _ _) (Nat.le_refl _) (by simp) ?_; (case hd => rfl); (case hg => rfl); (case hr => (go_simp; done)); (case hp => exact (Reps.none _ _)); intro v402 w12 ho13 hb hg_ hnew_; clear hg_ hnew_; (rw [← Ny401.out] at ho13); have n0_ := Aside0.mk (Kd.R_lower ho13 (below_size HB.out)); have n1_ := Aside0.mk (blk_below (g := gb399) (o := .cells #[.int .i64 0, .slice none 0 0] 35 (0, 0)) (by exact BK399.out) hb); have n2_ := Aside0.mk (blk_below (g := gb400) (o := .cells #[.int .i64 0, .slice none 0 0] 35 (0, 0)) (by exact BK400.out) hb); have n3_ := Aside0.mk (below_step HB.out hb); clear BK399; clear BK400; clear HB; have HO403 := n0_; have BK399 := n1_; have BK400 := n2_; have HB := n3_; clear n0_ n1_ n2_ n3_; clear hb ho13; have hcz14_0 : w12.cell? ⟨gb399, 0, none⟩ = some (.int .i64 0) := (blk_cell BK399.out 0).trans rfl; have hcz14_1 : w12.cell? ⟨gb399, 1, none⟩ = some (.slice none 0 0) := (blk_cell BK399.out 1).trans rfl; have hfz14_0 := blk_frozen BK399.out 0; have hfz14_1 := blk_frozen BK399.out 1)))
    refine bodyPost_ret (results_list (rs := [.cell 4 35, .tmp 5, .tmp 6, .tmp 7]) rfl (by simp) (.cell gb399 35 #[.int .i64 0, .slice none 0 0] (0, 0) _ rfl (by refine blk_put (cs := #[.int .i64 0, .slice none 0 0]) ?_ 1 _ rfl; refine blk_put (cs := #[.int .i64 0, .slice none 0 0]) ?_ 0 _ rfl; exact BK399.out) Try.underlying35 rfl (by kernel_rfl) (.tmp (.tmp (.tmp .nil))))) rfl ?_
    exact ⟨_, _, by (rfl), by (exact Kd.R_nil _ _ _ _ _), by exact Kd.R_mono (Kd.R_far (p := ⟨gb399, 1, none⟩) (Kd.R_far (p := ⟨gb399, 0, none⟩) (Kd.R_types HO403.out BK399.out (by decide)) (fun _ hk => hk.2) (.int .i64 0)) (fun _ hk => hk.2) (.slice none 0 0)) (fun _ hk => (by simp [Value.ownBlock])), by repeat (with_reducible first | exact HB.out | refine below_set ?_ GE399.out)⟩
  replace c9 := Bool.eq_false_iff.mpr c9
  subst c9
  have H1 : (if (wrap64 ((l0.length : Int) - a1)) < 4 then (some (0, ([] : List Int), ([] : List Int), 0, 1)) else (notaryref46_Read.l0 kj2 l0 a1 0 0 0)) = some (r1, r2, r3, r4, r5) := by rw [if_neg (show ¬ (false = true) by decide)] at H; exact H
  clear H
  have H := H1
  clear H1
  by_cases c15 : (wrap64 ((l0.length : Int) - a1)) < 4
  · rw [if_pos c15] at H
    have c15b0 : decide ((wrap64 ((l0.length : Int) - a1)) < 4) = true := decide_eq_true c15
    clear c15
    obtain ⟨y404, hy404⟩ : ∃ y_ : List Int, y_ = ([] : List Int) := ⟨_, rfl⟩
    replace H : (some (0, ([] : List Int), y404, 0, 1)) = some (r1, r2, r3, r4, r5) := by (rw [hy404]; with_reducible exact H)
    have Ny404 := Aside0.mk hy404
    clear hy404
    simp only [Option.some.injEq, Prod.mk.injEq] at H
    obtain ⟨rfl, rfl, rfl, rfl, rfl⟩ := H
    have hnb16 := NB400_399.out
    have hnc16 := NB399_400.out
    have hcz17_0 : wc.cell? ⟨gb400, 0, none⟩ = some (.int .i64 0) := (blk_cell BK400.out 0).trans rfl
    have hcz17_1 : wc.cell? ⟨gb400, 1, none⟩ = some (.slice none 0 0) := (blk_cell BK400.out 1).trans rfl
    have hfz17_0 := blk_frozen BK400.out 0
    have hfz17_1 := blk_frozen BK400.out 1
    go_wp2_with ((((with_reducible refine gate_dst (N := 29) rfl ?_); (try (refine gate_guard (by rfl) ?_; dsimp only)); refine Kd.R_lit (Kd.int .u8) _ 5 ?hg (N := 29) ?hd (xs := ([] : List Int)) (inner := []) (ok := fun _ => True) (okp := fun _ => True) ?hr ?hp (fun _ hk => hk) trivial (Below.refl _ _) (Nat.le_refl _) (by simp) ?_; (case hd => rfl); (case hg => rfl); (case hr => (go_simp; done)); (case hp => exact (Reps.none _ _)); intro v405 w18 ho19 hb hg_ hnew_; clear hg_ hnew_; (rw [← Ny404.out] at ho19); have n0_ := Aside0.mk (Kd.R_lower ho19 (below_size HB.out)); have n1_ := Aside0.mk (blk_below (g := gb399) (o := .cells #[.int .i64 0, .slice none 0 0] 35 (0, 0)) (by exact BK399.out) hb); have n2_ := Aside0.mk (blk_below (g := gb400) (o := .cells #[.int .i64 0, .slice none 0 0] 35 (0, 0)) (by exact BK400.out) hb); have n3_ := Aside0.mk (below_step HB.out hb); clear BK399; clear BK400; clear HB; have HO406 := n0_; have BK399 := n1_; have BK400 := n2_; have HB := n3_; clear n0_ n1_ n2_ n3_; clear hb ho19; have hcz20_0 : w18.cell? ⟨gb399, 0, none⟩ = some (.int .i64 0) := (blk_cell BK399.out 0).trans rfl; have hcz20_1 : w18.cell? ⟨gb399, 1, none⟩ = some (.slice none 0 0) := (blk_cell BK399.out 1).trans rfl; have hfz20_0 := blk_frozen BK399.out 0; have hfz20_1 := blk_frozen BK399.out 1)))
    refine bodyPost_ret (results_list (rs := [.cell 4 35, .tmp 5, .tmp 6, .tmp 7]) rfl (by simp) (.cell gb399 35 #[.int .i64 0, .slice none 0 0] (0, 0) _ rfl (by refine blk_put (cs := #[.int .i64 0, .slice none 0 0]) ?_ 1 _ rfl; refine blk_put (cs := #[.int .i64 0, .slice none 0 0]) ?_ 0 _ rfl; exact BK399.out) Try.underlying35 rfl (by kernel_rfl) (.tmp (.tmp (.tmp .nil))))) rfl ?_
    exact ⟨_, _, by (rfl), by (exact Kd.R_nil _ _ _ _ _), by exact Kd.R_mono (Kd.R_far (p := ⟨gb399, 1, none⟩) (Kd.R_far (p := ⟨gb399, 0, none⟩) (Kd.R_types HO406.out BK399.out (by decide)) (fun _ hk => hk.2) (.int .i64 0)) (fun _ hk => hk.2) (.slice none 0 0)) (fun _ hk => (by simp [Value.ownBlock])), by repeat (with_reducible first | exact HB.out | refine below_set ?_ GE399.out)⟩
  rw [if_neg c15] at H
  have c15b0 : decide ((wrap64 ((l0.length : Int) - a1)) < 4) = false := decide_eq_false c15
  clear c15
  have H' := Aside0.mk H
  clear H
  go_wp2
  go_loopg [9, 10] kj2 (fun kq v9 v10 w' => ∃ (x9_2 : Int) (x10_2 : Int), v9 = .int .i64 x9_2 ∧ v10 = .int .i64 x10_2 ∧ Aside0 (notaryref46_Read.l0 kq l0 a1 x9_2 x10_2 0 = some (r1, r2, r3, r4, r5)) ∧ Aside0 (kq ≤ kj2) ∧ Aside0 (w'.heap[gb399]? = some (.cells #[.int .i64 0, (.slice none 0 0)] 35 (0, 0))) ∧ Aside0 (w'.heap[gb400]? = some (.cells #[.int .i64 0, (.slice none 0 0)] 35 (0, 0))) ∧ Aside0 (Below w.heap.size w w'))
  case atStart => exact ⟨(0), (0), (by (rfl)), (by (rfl)), H', ⟨Nat.le_refl _⟩, ⟨by exact BK399.out⟩, ⟨by exact BK400.out⟩, ⟨HB.out⟩⟩
  clear H'
  try clear c15b0
  obtain ⟨x9_2, x10_2, rfl, rfl, HA, HK2, BK399, BK400, HB⟩ := hrel
  rcases gk with _ | k2
  · exact absurd HA.out (by simp [notaryref46_Read.l0])
  have H := HA.out
  clear HA
  simp only [notaryref46_Read.l0] at H
  by_cases c21 : x10_2 < 4
  · rw [if_pos c21] at H
    have c21b0 : decide (x10_2 < 4) = true := decide_eq_true c21
    clear c21
    obtain ⟨ji22, hji22⟩ : ∃ j_ : Int, (wrap64 (a1 + x10_2)) = j_ := ⟨_, rfl⟩
    replace H : (if 0 ≤ (ji22) then (if (ji22) < (l0.length : Int) then (notaryref46_Read.l0 k2 l0 a1 (wrap64 ((wrap64 (x9_2 * 256)) + (wrap64 (rd l0 (ji22))))) (wrap64 (x10_2 + 1)) 0) else (none)) else (none)) = some (r1, r2, r3, r4, r5) := by (rw [hji22] at H; exact H)
    have hji22w : (IntKind.i64.wrap (a1 + x10_2)) = ji22 := (i64_w _).trans hji22
    by_cases c23 : 0 ≤ (ji22)
    rotate_left
    · rw [if_neg c23] at H
      exact absurd H (by simp)
    rw [if_pos c23] at H
    have c23b0 : decide (0 ≤ (ji22)) = true := decide_eq_true c23
    clear c23
    by_cases c24 : (ji22) < (l0.length : Int)
    rotate_left
    · rw [if_neg c24] at H
      exact absurd H (by simp)
    rw [if_pos c24] at H
    have c24b0 : decide ((ji22) < (l0.length : Int)) = true := decide_eq_true c24
    clear c24
    have H' := Aside0.mk H
    clear H
    have p407 : 0 ≤ ((ji22) : Int) := of_decide_eq_true (by (with_reducible assumption))
    have q407 : (ji22) < (l0.length : Int) := of_decide_eq_true (by (with_reducible assumption))
    obtain ⟨ad407, e407, hx407_0⟩ := Kd.at_int HR0.out (ji22) p407 q407
    cases e407
    replace hx407_0 := pw_cell_below HB.out hx407_0
    replace p407 := eq_true p407
    replace q407 := eq_true q407
    go_wp2
    go_roundg k2
    case measure => have := HJ2.out; have := HK2.out; omega
    case rel => exact ⟨(wrap64 ((wrap64 (x9_2 * 256)) + (wrap64 (rd l0 (ji22))))), (wrap64 (x10_2 + 1)), (by (rfl)), (by (rfl)), H', ⟨by have := HJ2.out; have := HK2.out; omega⟩, ⟨by exact BK399.out⟩, ⟨by exact BK400.out⟩, ⟨HB.out⟩⟩
  rw [if_neg c21] at H
  have c21b0 : decide (x10_2 < 4) = false := decide_eq_false c21
  clear c21
  by_cases c25 : x9_2 = 0
  · rw [if_pos c25] at H
    have c25b0 : (x9_2 == 0) = true := beq_iff_eq.mpr c25
    have c25b1 : (x9_2 != 0) = false := bne_eq_false_iff_eq.mpr c25
    clear c25
    obtain ⟨y408, hy408⟩ : ∃ y_ : List Int, y_ = ([] : List Int) := ⟨_, rfl⟩
    replace H : (some (0, ([] : List Int), y408, 0, 2)) = some (r1, r2, r3, r4, r5) := by (rw [hy408]; with_reducible exact H)
    have Ny408 := Aside0.mk hy408
    clear hy408
    simp only [Option.some.injEq, Prod.mk.injEq] at H
    obtain ⟨rfl, rfl, rfl, rfl, rfl⟩ := H
    have hnb26 := NB400_399.out
    have hnc26 := NB399_400.out
    have hcz27_0 : wr.cell? ⟨gb400, 0, none⟩ = some (.int .i64 0) := (blk_cell BK400.out 0).trans rfl
    have hcz27_1 : wr.cell? ⟨gb400, 1, none⟩ = some (.slice none 0 0) := (blk_cell BK400.out 1).trans rfl
    have hfz27_0 := blk_frozen BK400.out 0
    have hfz27_1 := blk_frozen BK400.out 1
    go_wp2_with ((((with_reducible refine gate_dst (N := 47) rfl ?_); (try (refine gate_guard (by rfl) ?_; dsimp only)); refine Kd.R_lit (Kd.int .u8) _ 5 ?hg (N := 47) ?hd (xs := ([] : List Int)) (inner := []) (ok := fun _ => True) (okp := fun _ => True) ?hr ?hp (fun _ hk => hk) trivial (Below.refl _ _) (Nat.le_refl _) (by simp) ?_; (case hd => rfl); (case hg => rfl); (case hr => (go_simp; done)); (case hp => exact (Reps.none _ _)); intro v409 w28 ho29 hb hg_ hnew_; clear hg_ hnew_; (rw [← Ny408.out] at ho29); have n0_ := Aside0.mk (Kd.R_lower ho29 (below_size HB.out)); have n1_ := Aside0.mk (blk_below (g := gb399) (o := .cells #[.int .i64 0, .slice none 0 0] 35 (0, 0)) (by exact BK399.out) hb); have n2_ := Aside0.mk (blk_below (g := gb400) (o := .cells #[.int .i64 0, .slice none 0 0] 35 (0, 0)) (by exact BK400.out) hb); have n3_ := Aside0.mk (below_step HB.out hb); clear BK399; clear BK400; clear HB; have HO410 := n0_; have BK399 := n1_; have BK400 := n2_; have HB := n3_; clear n0_ n1_ n2_ n3_; clear hb ho29; have hcz30_0 : w28.cell? ⟨gb399, 0, none⟩ = some (.int .i64 0) := (blk_cell BK399.out 0).trans rfl; have hcz30_1 : w28.cell? ⟨gb399, 1, none⟩ = some (.slice none 0 0) := (blk_cell BK399.out 1).trans rfl; have hfz30_0 := blk_frozen BK399.out 0; have hfz30_1 := blk_frozen BK399.out 1)))
    refine bodyPost_ret (results_list (rs := [.cell 4 35, .tmp 5, .tmp 6, .tmp 7]) rfl (by simp) (.cell gb399 35 #[.int .i64 0, .slice none 0 0] (0, 0) _ rfl (by refine blk_put (cs := #[.int .i64 0, .slice none 0 0]) ?_ 1 _ rfl; refine blk_put (cs := #[.int .i64 0, .slice none 0 0]) ?_ 0 _ rfl; exact BK399.out) Try.underlying35 rfl (by kernel_rfl) (.tmp (.tmp (.tmp .nil))))) rfl ?_
    exact ⟨_, _, by (rfl), by (exact Kd.R_nil _ _ _ _ _), by exact Kd.R_mono (Kd.R_far (p := ⟨gb399, 1, none⟩) (Kd.R_far (p := ⟨gb399, 0, none⟩) (Kd.R_types HO410.out BK399.out (by decide)) (fun _ hk => hk.2) (.int .i64 0)) (fun _ hk => hk.2) (.slice none 0 0)) (fun _ hk => (by simp [Value.ownBlock])), by repeat (with_reducible first | exact HB.out | refine below_set ?_ GE399.out)⟩
  rw [if_neg c25] at H
  have c25b0 : (x9_2 == 0) = false := beq_eq_false_iff_ne.mpr c25
  have c25b1 : (x9_2 != 0) = true := bne_iff_ne.mpr c25
  by_cases c31 : x9_2 > 1025
  · rw [if_pos c31] at H
    have c31b0 : decide (1025 < x9_2) = true := decide_eq_true c31
    clear c31
    obtain ⟨y411, hy411⟩ : ∃ y_ : List Int, y_ = ([] : List Int) := ⟨_, rfl⟩
    replace H : (some (0, ([] : List Int), y411, 0, 3)) = some (r1, r2, r3, r4, r5) := by (rw [hy411]; with_reducible exact H)
    have Ny411 := Aside0.mk hy411
    clear hy411
    simp only [Option.some.injEq, Prod.mk.injEq] at H
    obtain ⟨rfl, rfl, rfl, rfl, rfl⟩ := H
    have hnb32 := NB400_399.out
    have hnc32 := NB399_400.out
    have hcz33_0 : wr.cell? ⟨gb400, 0, none⟩ = some (.int .i64 0) := (blk_cell BK400.out 0).trans rfl
    have hcz33_1 : wr.cell? ⟨gb400, 1, none⟩ = some (.slice none 0 0) := (blk_cell BK400.out 1).trans rfl
    have hfz33_0 := blk_frozen BK400.out 0
    have hfz33_1 := blk_frozen BK400.out 1
    go_wp2_with ((((with_reducible refine gate_dst (N := 51) rfl ?_); (try (refine gate_guard (by rfl) ?_; dsimp only)); refine Kd.R_lit (Kd.int .u8) _ 5 ?hg (N := 51) ?hd (xs := ([] : List Int)) (inner := []) (ok := fun _ => True) (okp := fun _ => True) ?hr ?hp (fun _ hk => hk) trivial (Below.refl _ _) (Nat.le_refl _) (by simp) ?_; (case hd => rfl); (case hg => rfl); (case hr => (go_simp; done)); (case hp => exact (Reps.none _ _)); intro v412 w34 ho35 hb hg_ hnew_; clear hg_ hnew_; (rw [← Ny411.out] at ho35); have n0_ := Aside0.mk (Kd.R_lower ho35 (below_size HB.out)); have n1_ := Aside0.mk (blk_below (g := gb399) (o := .cells #[.int .i64 0, .slice none 0 0] 35 (0, 0)) (by exact BK399.out) hb); have n2_ := Aside0.mk (blk_below (g := gb400) (o := .cells #[.int .i64 0, .slice none 0 0] 35 (0, 0)) (by exact BK400.out) hb); have n3_ := Aside0.mk (below_step HB.out hb); clear BK399; clear BK400; clear HB; have HO413 := n0_; have BK399 := n1_; have BK400 := n2_; have HB := n3_; clear n0_ n1_ n2_ n3_; clear hb ho35; have hcz36_0 : w34.cell? ⟨gb399, 0, none⟩ = some (.int .i64 0) := (blk_cell BK399.out 0).trans rfl; have hcz36_1 : w34.cell? ⟨gb399, 1, none⟩ = some (.slice none 0 0) := (blk_cell BK399.out 1).trans rfl; have hfz36_0 := blk_frozen BK399.out 0; have hfz36_1 := blk_frozen BK399.out 1)))
    refine bodyPost_ret (results_list (rs := [.cell 4 35, .tmp 5, .tmp 6, .tmp 7]) rfl (by simp) (.cell gb399 35 #[.int .i64 0, .slice none 0 0] (0, 0) _ rfl (by refine blk_put (cs := #[.int .i64 0, .slice none 0 0]) ?_ 1 _ rfl; refine blk_put (cs := #[.int .i64 0, .slice none 0 0]) ?_ 0 _ rfl; exact BK399.out) Try.underlying35 rfl (by kernel_rfl) (.tmp (.tmp (.tmp .nil))))) rfl ?_
    exact ⟨_, _, by (rfl), by (exact Kd.R_nil _ _ _ _ _), by exact Kd.R_mono (Kd.R_far (p := ⟨gb399, 1, none⟩) (Kd.R_far (p := ⟨gb399, 0, none⟩) (Kd.R_types HO413.out BK399.out (by decide)) (fun _ hk => hk.2) (.int .i64 0)) (fun _ hk => hk.2) (.slice none 0 0)) (fun _ hk => (by simp [Value.ownBlock])), by repeat (with_reducible first | exact HB.out | refine below_set ?_ GE399.out)⟩
  rw [if_neg c31] at H
  have c31b0 : decide (1025 < x9_2) = false := decide_eq_false c31
  clear c31
  by_cases c37 : (wrap64 ((l0.length : Int) - a1)) < (wrap64 ((wrap64 (4 + x9_2)) + 32))
  · rw [if_pos c37] at H
    have c37b0 : decide ((wrap64 ((l0.length : Int) - a1)) < (wrap64 ((wrap64 (4 + x9_2)) + 32))) = true := decide_eq_true c37
    clear c37
    obtain ⟨y414, hy414⟩ : ∃ y_ : List Int, y_ = ([] : List Int) := ⟨_, rfl⟩
    replace H : (some (0, ([] : List Int), y414, 0, 1)) = some (r1, r2, r3, r4, r5) := by (rw [hy414]; with_reducible exact H)
    have Ny414 := Aside0.mk hy414
    clear hy414
    simp only [Option.some.injEq, Prod.mk.injEq] at H
    obtain ⟨rfl, rfl, rfl, rfl, rfl⟩ := H
    have hnb38 := NB400_399.out
    have hnc38 := NB399_400.out
    have hcz39_0 : wr.cell? ⟨gb400, 0, none⟩ = some (.int .i64 0) := (blk_cell BK400.out 0).trans rfl
    have hcz39_1 : wr.cell? ⟨gb400, 1, none⟩ = some (.slice none 0 0) := (blk_cell BK400.out 1).trans rfl
    have hfz39_0 := blk_frozen BK400.out 0
    have hfz39_1 := blk_frozen BK400.out 1
    go_wp2_with ((((with_reducible refine gate_dst (N := 61) rfl ?_); (try (refine gate_guard (by rfl) ?_; dsimp only)); refine Kd.R_lit (Kd.int .u8) _ 5 ?hg (N := 61) ?hd (xs := ([] : List Int)) (inner := []) (ok := fun _ => True) (okp := fun _ => True) ?hr ?hp (fun _ hk => hk) trivial (Below.refl _ _) (Nat.le_refl _) (by simp) ?_; (case hd => rfl); (case hg => rfl); (case hr => (go_simp; done)); (case hp => exact (Reps.none _ _)); intro v415 w40 ho41 hb hg_ hnew_; clear hg_ hnew_; (rw [← Ny414.out] at ho41); have n0_ := Aside0.mk (Kd.R_lower ho41 (below_size HB.out)); have n1_ := Aside0.mk (blk_below (g := gb399) (o := .cells #[.int .i64 0, .slice none 0 0] 35 (0, 0)) (by exact BK399.out) hb); have n2_ := Aside0.mk (blk_below (g := gb400) (o := .cells #[.int .i64 0, .slice none 0 0] 35 (0, 0)) (by exact BK400.out) hb); have n3_ := Aside0.mk (below_step HB.out hb); clear BK399; clear BK400; clear HB; have HO416 := n0_; have BK399 := n1_; have BK400 := n2_; have HB := n3_; clear n0_ n1_ n2_ n3_; clear hb ho41; have hcz42_0 : w40.cell? ⟨gb399, 0, none⟩ = some (.int .i64 0) := (blk_cell BK399.out 0).trans rfl; have hcz42_1 : w40.cell? ⟨gb399, 1, none⟩ = some (.slice none 0 0) := (blk_cell BK399.out 1).trans rfl; have hfz42_0 := blk_frozen BK399.out 0; have hfz42_1 := blk_frozen BK399.out 1)))
    refine bodyPost_ret (results_list (rs := [.cell 4 35, .tmp 5, .tmp 6, .tmp 7]) rfl (by simp) (.cell gb399 35 #[.int .i64 0, .slice none 0 0] (0, 0) _ rfl (by refine blk_put (cs := #[.int .i64 0, .slice none 0 0]) ?_ 1 _ rfl; refine blk_put (cs := #[.int .i64 0, .slice none 0 0]) ?_ 0 _ rfl; exact BK399.out) Try.underlying35 rfl (by kernel_rfl) (.tmp (.tmp (.tmp .nil))))) rfl ?_
    exact ⟨_, _, by (rfl), by (exact Kd.R_nil _ _ _ _ _), by exact Kd.R_mono (Kd.R_far (p := ⟨gb399, 1, none⟩) (Kd.R_far (p := ⟨gb399, 0, none⟩) (Kd.R_types HO416.out BK399.out (by decide)) (fun _ hk => hk.2) (.int .i64 0)) (fun _ hk => hk.2) (.slice none 0 0)) (fun _ hk => (by simp [Value.ownBlock])), by repeat (with_reducible first | exact HB.out | refine below_set ?_ GE399.out)⟩
  rw [if_neg c37] at H
  have c37b0 : decide ((wrap64 ((l0.length : Int) - a1)) < (wrap64 ((wrap64 (4 + x9_2)) + 32))) = false := decide_eq_false c37
  clear c37
  obtain ⟨ji43, hji43⟩ : ∃ j_ : Int, (wrap64 (a1 + 4)) = j_ := ⟨_, rfl⟩
  replace H : (if 0 ≤ (ji43) then (if (ji43) < (l0.length : Int) then (if (rd l0 (ji43)) < 1 then (some (0, ([] : List Int), ([] : List Int), 0, 23)) else (if (rd l0 (ji43)) > 3 then (some (0, ([] : List Int), ([] : List Int), 0, 23)) else ((some (([] : List Int) : List Int)).bind fun y426 => (if 0 ≤ (wrap64 (a1 + 5)) then (if (wrap64 (a1 + 5)) ≤ (wrap64 ((ji43) + x9_2)) then (if (wrap64 ((ji43) + x9_2)) ≤ (l0.length : Int) then (if y426.length + ((l0.take ((wrap64 ((ji43) + x9_2)) : Int).toNat).drop ((wrap64 (a1 + 5)) : Int).toNat).length < 140737488355328 then ((some (([] : List Int) : List Int)).bind fun y434 => (if 0 ≤ (wrap64 ((ji43) + x9_2)) then (if (wrap64 ((ji43) + x9_2)) ≤ (wrap64 ((wrap64 (a1 + 36)) + x9_2)) then (if (wrap64 ((wrap64 (a1 + 36)) + x9_2)) ≤ (l0.length : Int) then (if y434.length + ((l0.take ((wrap64 ((wrap64 (a1 + 36)) + x9_2)) : Int).toNat).drop ((wrap64 ((ji43) + x9_2)) : Int).toNat).length < 140737488355328 then (some (wrap64 (rd l0 (ji43)), (y426 ++ ((l0.take ((wrap64 ((ji43) + x9_2)) : Int).toNat).drop ((wrap64 (a1 + 5)) : Int).toNat)), (y434 ++ ((l0.take ((wrap64 ((wrap64 (a1 + 36)) + x9_2)) : Int).toNat).drop ((wrap64 ((ji43) + x9_2)) : Int).toNat)), wrap64 ((wrap64 (a1 + 36)) + x9_2), 0)) else (none)) else (none)) else (none)) else (none))) else (none)) else (none)) else (none)) else (none))))) else (none)) else (none)) = some (r1, r2, r3, r4, r5) := by (rw [hji43] at H; exact H)
  have hji43w : (IntKind.i64.wrap (a1 + 4)) = ji43 := (i64_w _).trans hji43
  by_cases c44 : 0 ≤ (ji43)
  rotate_left
  · rw [if_neg c44] at H
    exact absurd H (by simp)

  rw [if_pos c44] at H
  have c44b0 : decide (0 ≤ (ji43)) = true := decide_eq_true c44
  clear c44
  by_cases c45 : (ji43) < (l0.length : Int)
  rotate_left
  · rw [if_neg c45] at H
    exact absurd H (by simp)
  rw [if_pos c45] at H
  have c45b0 : decide ((ji43) < (l0.length : Int)) = true := decide_eq_true c45
  clear c45
  by_cases c46 : (rd l0 (ji43)) < 1
  · rw [if_pos c46] at H
    have c46b0 : decide ((rd l0 (ji43)) < 1) = true := decide_eq_true c46
    clear c46
    obtain ⟨y418, hy418⟩ : ∃ y_ : List Int, y_ = ([] : List Int) := ⟨_, rfl⟩
    replace H : (some (0, ([] : List Int), y418, 0, 23)) = some (r1, r2, r3, r4, r5) := by (rw [hy418]; with_reducible exact H)
    have Ny418 := Aside0.mk hy418
    clear hy418
    simp only [Option.some.injEq, Prod.mk.injEq] at H
    obtain ⟨rfl, rfl, rfl, rfl, rfl⟩ := H
    have p417 : 0 ≤ ((ji43) : Int) := of_decide_eq_true (by (with_reducible assumption))
    have q417 : (ji43) < (l0.length : Int) := of_decide_eq_true (by (with_reducible assumption))
    obtain ⟨ad417, e417, hx417_0⟩ := Kd.at_int HR0.out (ji43) p417 q417
    cases e417
    replace hx417_0 := pw_cell_below HB.out hx417_0
    replace p417 := eq_true p417
    replace q417 := eq_true q417
    have hnb47 := NB400_399.out
    have hnc47 := NB399_400.out
    have hcz48_0 : wr.cell? ⟨gb400, 0, none⟩ = some (.int .i64 0) := (blk_cell BK400.out 0).trans rfl
    have hcz48_1 : wr.cell? ⟨gb400, 1, none⟩ = some (.slice none 0 0) := (blk_cell BK400.out 1).trans rfl
    have hfz48_0 := blk_frozen BK400.out 0
    have hfz48_1 := blk_frozen BK400.out 1
    go_wp2_with ((((with_reducible refine gate_dst (N := 77) rfl ?_); (try (refine gate_guard (by rfl) ?_; dsimp only)); refine Kd.R_lit (Kd.int .u8) _ 5 ?hg (N := 77) ?hd (xs := ([] : List Int)) (inner := []) (ok := fun _ => True) (okp := fun _ => True) ?hr ?hp (fun _ hk => hk) trivial (Below.refl _ _) (Nat.le_refl _) (by simp) ?_; (case hd => rfl); (case hg => rfl); (case hr => (go_simp; done)); (case hp => exact (Reps.none _ _)); intro v419 w49 ho50 hb hg_ hnew_; clear hg_ hnew_; (rw [← Ny418.out] at ho50); have n0_ := Aside0.mk (Kd.R_lower ho50 (below_size HB.out)); have n1_ := Aside0.mk (blk_below (g := gb399) (o := .cells #[.int .i64 0, .slice none 0 0] 35 (0, 0)) (by exact BK399.out) hb); have n2_ := Aside0.mk (blk_below (g := gb400) (o := .cells #[.int .i64 0, .slice none 0 0] 35 (0, 0)) (by exact BK400.out) hb); have n3_ := Aside0.mk (below_step HB.out hb); clear BK399; clear BK400; clear HB; have HO420 := n0_; have BK399 := n1_; have BK400 := n2_; have HB := n3_; clear n0_ n1_ n2_ n3_; clear hb ho50; have hcz51_0 : w49.cell? ⟨gb399, 0, none⟩ = some (.int .i64 0) := (blk_cell BK399.out 0).trans rfl; have hcz51_1 : w49.cell? ⟨gb399, 1, none⟩ = some (.slice none 0 0) := (blk_cell BK399.out 1).trans rfl; have hfz51_0 := blk_frozen BK399.out 0; have hfz51_1 := blk_frozen BK399.out 1)))
    refine bodyPost_ret (results_list (rs := [.cell 4 35, .tmp 5, .tmp 6, .tmp 7]) rfl (by simp) (.cell gb399 35 #[.int .i64 0, .slice none 0 0] (0, 0) _ rfl (by refine blk_put (cs := #[.int .i64 0, .slice none 0 0]) ?_ 1 _ rfl; refine blk_put (cs := #[.int .i64 0, .slice none 0 0]) ?_ 0 _ rfl; exact BK399.out) Try.underlying35 rfl (by kernel_rfl) (.tmp (.tmp (.tmp .nil))))) rfl ?_
    exact ⟨_, _, by (rfl), by (exact Kd.R_nil _ _ _ _ _), by exact Kd.R_mono (Kd.R_far (p := ⟨gb399, 1, none⟩) (Kd.R_far (p := ⟨gb399, 0, none⟩) (Kd.R_types HO420.out BK399.out (by decide)) (fun _ hk => hk.2) (.int .i64 0)) (fun _ hk => hk.2) (.slice none 0 0)) (fun _ hk => (by simp [Value.ownBlock])), by repeat (with_reducible first | exact HB.out | refine below_set ?_ GE399.out)⟩
  rw [if_neg c46] at H
  have c46b0 : decide ((rd l0 (ji43)) < 1) = false := decide_eq_false c46
  clear c46
  by_cases c52 : (rd l0 (ji43)) > 3
  · rw [if_pos c52] at H
    have c52b0 : decide (3 < (rd l0 (ji43))) = true := decide_eq_true c52
    clear c52
    obtain ⟨y422, hy422⟩ : ∃ y_ : List Int, y_ = ([] : List Int) := ⟨_, rfl⟩
    replace H : (some (0, ([] : List Int), y422, 0, 23)) = some (r1, r2, r3, r4, r5) := by (rw [hy422]; with_reducible exact H)
    have Ny422 := Aside0.mk hy422
    clear hy422
    simp only [Option.some.injEq, Prod.mk.injEq] at H
    obtain ⟨rfl, rfl, rfl, rfl, rfl⟩ := H
    have p417 : 0 ≤ ((ji43) : Int) := of_decide_eq_true (by (with_reducible assumption))
    have q417 : (ji43) < (l0.length : Int) := of_decide_eq_true (by (with_reducible assumption))
    obtain ⟨ad417, e417, hx417_0⟩ := Kd.at_int HR0.out (ji43) p417 q417
    cases e417
    replace hx417_0 := pw_cell_below HB.out hx417_0
    replace p417 := eq_true p417
    replace q417 := eq_true q417
    have p421 : 0 ≤ ((ji43) : Int) := of_decide_eq_true (by (with_reducible assumption))
    have q421 : (ji43) < (l0.length : Int) := of_decide_eq_true (by (with_reducible assumption))
    obtain ⟨ad421, e421, hx421_0⟩ := Kd.at_int HR0.out (ji43) p421 q421
    obtain rfl : ad417 = ad421 := (by injection e421)
    replace hx421_0 := pw_cell_below HB.out hx421_0
    replace p421 := eq_true p421
    replace q421 := eq_true q421
    have hnb53 := NB400_399.out
    have hnc53 := NB399_400.out
    have hcz54_0 : wr.cell? ⟨gb400, 0, none⟩ = some (.int .i64 0) := (blk_cell BK400.out 0).trans rfl
    have hcz54_1 : wr.cell? ⟨gb400, 1, none⟩ = some (.slice none 0 0) := (blk_cell BK400.out 1).trans rfl
    have hfz54_0 := blk_frozen BK400.out 0
    have hfz54_1 := blk_frozen BK400.out 1
    go_wp2_with ((((with_reducible refine gate_dst (N := 77) rfl ?_); (try (refine gate_guard (by rfl) ?_; dsimp only)); refine Kd.R_lit (Kd.int .u8) _ 5 ?hg (N := 77) ?hd (xs := ([] : List Int)) (inner := []) (ok := fun _ => True) (okp := fun _ => True) ?hr ?hp (fun _ hk => hk) trivial (Below.refl _ _) (Nat.le_refl _) (by simp) ?_; (case hd => rfl); (case hg => rfl); (case hr => (go_simp; done)); (case hp => exact (Reps.none _ _)); intro v423 w55 ho56 hb hg_ hnew_; clear hg_ hnew_; (rw [← Ny422.out] at ho56); have n0_ := Aside0.mk (Kd.R_lower ho56 (below_size HB.out)); have n1_ := Aside0.mk (blk_below (g := gb399) (o := .cells #[.int .i64 0, .slice none 0 0] 35 (0, 0)) (by exact BK399.out) hb); have n2_ := Aside0.mk (blk_below (g := gb400) (o := .cells #[.int .i64 0, .slice none 0 0] 35 (0, 0)) (by exact BK400.out) hb); have n3_ := Aside0.mk (below_step HB.out hb); clear BK399; clear BK400; clear HB; have HO424 := n0_; have BK399 := n1_; have BK400 := n2_; have HB := n3_; clear n0_ n1_ n2_ n3_; clear hb ho56; have hcz57_0 : w55.cell? ⟨gb399, 0, none⟩ = some (.int .i64 0) := (blk_cell BK399.out 0).trans rfl; have hcz57_1 : w55.cell? ⟨gb399, 1, none⟩ = some (.slice none 0 0) := (blk_cell BK399.out 1).trans rfl; have hfz57_0 := blk_frozen BK399.out 0; have hfz57_1 := blk_frozen BK399.out 1)))
    refine bodyPost_ret (results_list (rs := [.cell 4 35, .tmp 5, .tmp 6, .tmp 7]) rfl (by simp) (.cell gb399 35 #[.int .i64 0, .slice none 0 0] (0, 0) _ rfl (by refine blk_put (cs := #[.int .i64 0, .slice none 0 0]) ?_ 1 _ rfl; refine blk_put (cs := #[.int .i64 0, .slice none 0 0]) ?_ 0 _ rfl; exact BK399.out) Try.underlying35 rfl (by kernel_rfl) (.tmp (.tmp (.tmp .nil))))) rfl ?_
    exact ⟨_, _, by (rfl), by (exact Kd.R_nil _ _ _ _ _), by exact Kd.R_mono (Kd.R_far (p := ⟨gb399, 1, none⟩) (Kd.R_far (p := ⟨gb399, 0, none⟩) (Kd.R_types HO424.out BK399.out (by decide)) (fun _ hk => hk.2) (.int .i64 0)) (fun _ hk => hk.2) (.slice none 0 0)) (fun _ hk => (by simp [Value.ownBlock])), by repeat (with_reducible first | exact HB.out | refine below_set ?_ GE399.out)⟩
  rw [if_neg c52] at H
  have c52b0 : decide (3 < (rd l0 (ji43))) = false := decide_eq_false c52
  clear c52
  obtain ⟨y426, hy426⟩ : ∃ y_ : List Int, y_ = ([] : List Int) := ⟨_, rfl⟩
  replace H : (if 0 ≤ (wrap64 (a1 + 5)) then (if (wrap64 (a1 + 5)) ≤ (wrap64 ((ji43) + x9_2)) then (if (wrap64 ((ji43) + x9_2)) ≤ (l0.length : Int) then (if y426.length + ((l0.take ((wrap64 ((ji43) + x9_2)) : Int).toNat).drop ((wrap64 (a1 + 5)) : Int).toNat).length < 140737488355328 then ((some (([] : List Int) : List Int)).bind fun y434 => (if 0 ≤ (wrap64 ((ji43) + x9_2)) then (if (wrap64 ((ji43) + x9_2)) ≤ (wrap64 ((wrap64 (a1 + 36)) + x9_2)) then (if (wrap64 ((wrap64 (a1 + 36)) + x9_2)) ≤ (l0.length : Int) then (if y434.length + ((l0.take ((wrap64 ((wrap64 (a1 + 36)) + x9_2)) : Int).toNat).drop ((wrap64 ((ji43) + x9_2)) : Int).toNat).length < 140737488355328 then (some (wrap64 (rd l0 (ji43)), (y426 ++ ((l0.take ((wrap64 ((ji43) + x9_2)) : Int).toNat).drop ((wrap64 (a1 + 5)) : Int).toNat)), (y434 ++ ((l0.take ((wrap64 ((wrap64 (a1 + 36)) + x9_2)) : Int).toNat).drop ((wrap64 ((ji43) + x9_2)) : Int).toNat)), wrap64 ((wrap64 (a1 + 36)) + x9_2), 0)) else (none)) else (none)) else (none)) else (none))) else (none)) else (none)) else (none)) else (none)) = some (r1, r2, r3, r4, r5) := by ((have H2_ := (Option.bind_some _ _).symm.trans H; rw [hy426]; with_reducible exact H2_))
  have Ny426 := Aside0.mk hy426
  clear hy426
  obtain ⟨ji58, hji58⟩ : ∃ j_ : Int, (wrap64 (a1 + 5)) = j_ := ⟨_, rfl⟩
  replace H : (if 0 ≤ (ji58) then (if (ji58) ≤ (wrap64 ((ji43) + x9_2)) then (if (wrap64 ((ji43) + x9_2)) ≤ (l0.length : Int) then (if y426.length + ((l0.take ((wrap64 ((ji43) + x9_2)) : Int).toNat).drop ((ji58) : Int).toNat).length < 140737488355328 then ((some (([] : List Int) : List Int)).bind fun y434 => (if 0 ≤ (wrap64 ((ji43) + x9_2)) then (if (wrap64 ((ji43) + x9_2)) ≤ (wrap64 ((wrap64 (a1 + 36)) + x9_2)) then (if (wrap64 ((wrap64 (a1 + 36)) + x9_2)) ≤ (l0.length : Int) then (if y434.length + ((l0.take ((wrap64 ((wrap64 (a1 + 36)) + x9_2)) : Int).toNat).drop ((wrap64 ((ji43) + x9_2)) : Int).toNat).length < 140737488355328 then (some (wrap64 (rd l0 (ji43)), (y426 ++ ((l0.take ((wrap64 ((ji43) + x9_2)) : Int).toNat).drop ((ji58) : Int).toNat)), (y434 ++ ((l0.take ((wrap64 ((wrap64 (a1 + 36)) + x9_2)) : Int).toNat).drop ((wrap64 ((ji43) + x9_2)) : Int).toNat)), wrap64 ((wrap64 (a1 + 36)) + x9_2), 0)) else (none)) else (none)) else (none)) else (none))) else (none)) else (none)) else (none)) else (none)) = some (r1, r2, r3, r4, r5) := by (rw [hji58] at H; exact H)
  have hji58w : (IntKind.i64.wrap (a1 + 5)) = ji58 := (i64_w _).trans hji58
  by_cases c59 : 0 ≤ (ji58)
  rotate_left
  · rw [if_neg c59] at H
    exact absurd H (by simp)
  rw [if_pos c59] at H
  have c59b0 := eq_true c59
  have c59b1 : decide (0 ≤ (ji58)) = true := decide_eq_true c59
  clear c59
  by_cases c60 : (ji58) ≤ (wrap64 ((ji43) + x9_2))
  rotate_left
  · rw [if_neg c60] at H
    exact absurd H (by simp)
  rw [if_pos c60] at H
  have c60b0 := eq_true c60
  have c60b1 : decide ((ji58) ≤ (wrap64 ((ji43) + x9_2))) = true := decide_eq_true c60
  by_cases c61 : (wrap64 ((ji43) + x9_2)) ≤ (l0.length : Int)
  rotate_left
  · rw [if_neg c61] at H
    exact absurd H (by simp)
  rw [if_pos c61] at H
  have c61b0 := eq_true c61
  have c61b1 : decide ((wrap64 ((ji43) + x9_2)) ≤ (l0.length : Int)) = true := decide_eq_true c61
  by_cases c62 : y426.length + ((l0.take ((wrap64 ((ji43) + x9_2)) : Int).toNat).drop ((ji58) : Int).toNat).length < 140737488355328
  rotate_left
  · rw [if_neg c62] at H
    exact absurd H (by simp)
  rw [if_pos c62] at H
  have LMc62 := Aside0.mk c62
  clear c62
  obtain ⟨y430, hy430⟩ : ∃ y_ : List Int, y_ = (y426 ++ ((l0.take ((wrap64 ((ji43) + x9_2)) : Int).toNat).drop ((ji58) : Int).toNat)) := ⟨_, rfl⟩
  replace H : ((some (([] : List Int) : List Int)).bind fun y434 => (if 0 ≤ (wrap64 ((ji43) + x9_2)) then (if (wrap64 ((ji43) + x9_2)) ≤ (wrap64 ((wrap64 (a1 + 36)) + x9_2)) then (if (wrap64 ((wrap64 (a1 + 36)) + x9_2)) ≤ (l0.length : Int) then (if y434.length + ((l0.take ((wrap64 ((wrap64 (a1 + 36)) + x9_2)) : Int).toNat).drop ((wrap64 ((ji43) + x9_2)) : Int).toNat).length < 140737488355328 then (some (wrap64 (rd l0 (ji43)), y430, (y434 ++ ((l0.take ((wrap64 ((wrap64 (a1 + 36)) + x9_2)) : Int).toNat).drop ((wrap64 ((ji43) + x9_2)) : Int).toNat)), wrap64 ((wrap64 (a1 + 36)) + x9_2), 0)) else (none)) else (none)) else (none)) else (none))) = some (r1, r2, r3, r4, r5) := by (rw [hy430]; with_reducible exact H)
  have Ny430 := Aside0.mk hy430
  clear hy430
  obtain ⟨y434, hy434⟩ : ∃ y_ : List Int, y_ = ([] : List Int) := ⟨_, rfl⟩
  replace H : (if 0 ≤ (wrap64 ((ji43) + x9_2)) then (if (wrap64 ((ji43) + x9_2)) ≤ (wrap64 ((wrap64 (a1 + 36)) + x9_2)) then (if (wrap64 ((wrap64 (a1 + 36)) + x9_2)) ≤ (l0.length : Int) then (if y434.length + ((l0.take ((wrap64 ((wrap64 (a1 + 36)) + x9_2)) : Int).toNat).drop ((wrap64 ((ji43) + x9_2)) : Int).toNat).length < 140737488355328 then (some (wrap64 (rd l0 (ji43)), y430, (y434 ++ ((l0.take ((wrap64 ((wrap64 (a1 + 36)) + x9_2)) : Int).toNat).drop ((wrap64 ((ji43) + x9_2)) : Int).toNat)), wrap64 ((wrap64 (a1 + 36)) + x9_2), 0)) else (none)) else (none)) else (none)) else (none)) = some (r1, r2, r3, r4, r5) := by ((have H2_ := (Option.bind_some _ _).symm.trans H; rw [hy434]; with_reducible exact H2_))
  have Ny434 := Aside0.mk hy434
  clear hy434
  obtain ⟨ji63, hji63⟩ : ∃ j_ : Int, (wrap64 ((ji43) + x9_2)) = j_ := ⟨_, rfl⟩
  replace H : (if 0 ≤ (ji63) then (if (ji63) ≤ (wrap64 ((wrap64 (a1 + 36)) + x9_2)) then (if (wrap64 ((wrap64 (a1 + 36)) + x9_2)) ≤ (l0.length : Int) then (if y434.length + ((l0.take ((wrap64 ((wrap64 (a1 + 36)) + x9_2)) : Int).toNat).drop ((ji63) : Int).toNat).length < 140737488355328 then (some (wrap64 (rd l0 (ji43)), y430, (y434 ++ ((l0.take ((wrap64 ((wrap64 (a1 + 36)) + x9_2)) : Int).toNat).drop ((ji63) : Int).toNat)), wrap64 ((wrap64 (a1 + 36)) + x9_2), 0)) else (none)) else (none)) else (none)) else (none)) = some (r1, r2, r3, r4, r5) := by (rw [hji63] at H; exact H)
  (try rw [hji63] at c60b0)
  (try rw [hji63] at c60b1)
  (try rw [hji63] at c60)
  (try rw [hji63] at c61b0)
  (try rw [hji63] at c61b1)
  (try rw [hji63] at c61)
  (try rw [hji63] at Ny430)
  (skip)
  (skip)
  have hji63w : (IntKind.i64.wrap ((ji43) + x9_2)) = ji63 := (i64_w _).trans hji63
  by_cases c64 : 0 ≤ (ji63)
  rotate_left
  · rw [if_neg c64] at H
    exact absurd H (by simp)
  rw [if_pos c64] at H
  have c64b0 := eq_true c64
  have c64b1 : decide (0 ≤ (ji63)) = true := decide_eq_true c64
  clear c64
  by_cases c65 : (ji63) ≤ (wrap64 ((wrap64 (a1 + 36)) + x9_2))
  rotate_left
  · rw [if_neg c65] at H
    exact absurd H (by simp)
  rw [if_pos c65] at H
  have c65b0 := eq_true c65
  have c65b1 : decide ((ji63) ≤ (wrap64 ((wrap64 (a1 + 36)) + x9_2))) = true := decide_eq_true c65
  by_cases c66 : (wrap64 ((wrap64 (a1 + 36)) + x9_2)) ≤ (l0.length : Int)
  rotate_left
  · rw [if_neg c66] at H
    exact absurd H (by simp)
  rw [if_pos c66] at H
  have c66b0 := eq_true c66
  have c66b1 : decide ((wrap64 ((wrap64 (a1 + 36)) + x9_2)) ≤ (l0.length : Int)) = true := decide_eq_true c66
  by_cases c67 : y434.length + ((l0.take ((wrap64 ((wrap64 (a1 + 36)) + x9_2)) : Int).toNat).drop ((ji63) : Int).toNat).length < 140737488355328
  rotate_left
  · rw [if_neg c67] at H
    exact absurd H (by simp)
  rw [if_pos c67] at H
  have LMc67 := Aside0.mk c67
  clear c67
  obtain ⟨y438, hy438⟩ : ∃ y_ : List Int, y_ = (y434 ++ ((l0.take ((wrap64 ((wrap64 (a1 + 36)) + x9_2)) : Int).toNat).drop ((ji63) : Int).toNat)) := ⟨_, rfl⟩
  replace H : (some (wrap64 (rd l0 (ji43)), y430, y438, wrap64 ((wrap64 (a1 + 36)) + x9_2), 0)) = some (r1, r2, r3, r4, r5) := by (rw [hy438]; with_reducible exact H)
  have Ny438 := Aside0.mk hy438
  clear hy438
  simp only [Option.some.injEq, Prod.mk.injEq] at H
  obtain ⟨rfl, rfl, rfl, rfl, rfl⟩ := H
  have p417 : 0 ≤ ((ji43) : Int) := of_decide_eq_true (by (with_reducible assumption))
  have q417 : (ji43) < (l0.length : Int) := of_decide_eq_true (by (with_reducible assumption))
  obtain ⟨ad417, e417, hx417_0⟩ := Kd.at_int HR0.out (ji43) p417 q417
  cases e417
  replace hx417_0 := pw_cell_below HB.out hx417_0
  replace p417 := eq_true p417
  replace q417 := eq_true q417
  have p421 : 0 ≤ ((ji43) : Int) := of_decide_eq_true (by (with_reducible assumption))
  have q421 : (ji43) < (l0.length : Int) := of_decide_eq_true (by (with_reducible assumption))
  obtain ⟨ad421, e421, hx421_0⟩ := Kd.at_int HR0.out (ji43) p421 q421
  obtain rfl : ad417 = ad421 := (by injection e421)
  replace hx421_0 := pw_cell_below HB.out hx421_0
  replace p421 := eq_true p421
  replace q421 := eq_true q421
  try go_wp2
  have n0_ := Aside0.mk (blk_drew BK399.out)
  have n1_ := Aside0.mk (blk_drew BK400.out)
  have n2_ := Aside0.mk (below_drew1 HB.out)
  clear BK399
  clear BK400
  clear HB
  have BK399 := n0_
  have BK400 := n1_
  have HB := n2_
  clear n0_ n1_ n2_
  have p425 : 0 ≤ ((ji43) : Int) := of_decide_eq_true (by (with_reducible assumption))
  have q425 : (ji43) < (l0.length : Int) := of_decide_eq_true (by (with_reducible assumption))
  obtain ⟨ad425, e425, hx425_0⟩ := Kd.at_int HR0.out (ji43) p425 q425
  have hw425_0 := hx425_0
  obtain rfl : ad417 = ad425 := (by injection e425)
  replace hx425_0 := pw_cell_below HB.out hx425_0
  replace p425 := eq_true p425
  replace q425 := eq_true q425
  obtain ⟨i069, hi069, _, hsz69, _⟩ := info_parts info5
  obtain ⟨A69, hcut69, hA69, hC69⟩ := print_mid_of (P := Try.prog) (Value.int .u8) 0 22 5 .i64 .i64 Try.underlying22 hi069 hsz69 (some ad417) c0 l0 (ji58) (ji63) (of_decide_eq_true (by (with_reducible assumption))) (by (omega)) (of_decide_eq_true (by (with_reducible assumption))) HC0.out
  have HR429 := Aside0.mk (Kd.C_of_reads (h1 := fun _ => rfl) (hA69 _ (Kd.reads_of_C HR0.out)))
  have HC429 := Aside0.mk hC69
  clear hA69 hC69 hi069 hsz69
  refine start_ (n := 19) (S := fun w' => w'.cell? (ad417.add (ji43).toNat) = some (.int .u8 (rd l0 (ji43)))) (ds := []) (bl 19 0) (by kernel_rfl) rfl rfl ((pw_cell_below HB.out hw425_0)) (fun hHeld => ?_); refine with_tabW notaryref46_Read.tab19 notaryref46_Read.bits19 (fun HT_ HW_ => ?_)
  generalize wr.drew = w68 at BK399 BK400 HB HR429 hx425_0 hHeld ⊢
  refine pure_ (i := 0) (N := some 78) (v := ?_) (a' := ?_) (bl 19 1) rfl rfl (any_of HT_.out (by kernel_rfl)) (fun _ _ _ h => h) (Or.inl ⟨by rfl, ?_⟩) ?_ ?_
  rotate_left
  · intro w'; go_simp; with_reducible rfl
  rotate_left
  · simp only [Act.put, sa_, sz_, ss_, i64_w, i32_w]; rfl
  refine pure_ (i := 1) (N := some 79) (v := ?_) (a' := ?_) (bl 19 3) rfl rfl (any_of HT_.out (by kernel_rfl)) (fun _ _ _ h => h) (Or.inl ⟨by rfl, ?_⟩) ?_ ?_
  rotate_left
  · intro w'; go_simp; with_reducible rfl
  rotate_left
  · simp only [Act.put, sa_, sz_, ss_, i64_w, i32_w]; rfl
  refine pure_ (i := 2) (N := some 80) (v := ?_) (a' := ?_) (bl 19 7) rfl rfl (any_of HT_.out (by kernel_rfl)) (fun _ _ _ h => h) (Or.inl ⟨by rfl, ?_⟩) ?_ ?_
  rotate_left
  · intro w'; go_simp; with_reducible rfl
  rotate_left
  · simp only [Act.put, sa_, sz_, ss_, i64_w, i32_w]; rfl
  refine pure_ (i := 3) (N := some 81) (v := ?_) (a' := ?_) (bl 19 15) rfl rfl (any_of HT_.out (by kernel_rfl)) (fun _ _ _ h => h) (Or.inl ⟨by rfl, ?_⟩) ?_ ?_
  rotate_left
  · intro w'; go_simp; with_reducible rfl
  rotate_left
  · simp only [Act.put, sa_, sz_, ss_, i64_w, i32_w]; rfl
  refine pure_ (i := 7) (N := some 85) (v := ?_) (a' := ?_) (bl 19 143) rfl rfl (any_of HT_.out (by kernel_rfl)) (fun _ _ _ h => h) (Or.inl ⟨by rfl, ?_⟩) ?_ ?_
  rotate_left
  · intro w'; go_simp; with_reducible rfl
  rotate_left
  · simp only [Act.put, sa_, sz_, ss_, i64_w, i32_w]; rfl
  refine pure_ (i := 8) (N := some 86) (v := ?_) (a' := ?_) (bl 19 399) rfl rfl (any_of HT_.out (by kernel_rfl)) (fun _ _ _ h => h) (Or.inl ⟨by rfl, ?_⟩) ?_ ?_
  rotate_left
  · intro w'; go_simp; with_reducible rfl
  rotate_left
  · simp only [Act.put, sa_, sz_, ss_, i64_w, i32_w]; rfl
  refine pure_ (i := 9) (N := some 87) (v := ?_) (a' := ?_) (bl 19 911) rfl rfl (any_of HT_.out (by kernel_rfl)) (fun _ _ _ h => h) (Or.inl ⟨by rfl, ?_⟩) ?_ ?_
  rotate_left
  · intro w'; go_simp; with_reducible rfl
  rotate_left
  · simp only [Act.put, sa_, sz_, ss_, i64_w, i32_w]; rfl
  refine pure_ (i := 10) (N := some 88) (v := ?_) (a' := ?_) (bl 19 1935) rfl rfl (any_of HT_.out (by kernel_rfl)) (fun _ _ _ h => h) (Or.inl ⟨by rfl, ?_⟩) ?_ ?_
  rotate_left
  · intro w'; go_simp; with_reducible rfl
  rotate_left
  · simp only [Act.put, sa_, sz_, ss_, i64_w, i32_w]; rfl
  refine pure_ (i := 11) (N := some 89) (v := ?_) (a' := ?_) (bl 19 3983) rfl rfl (any_of HT_.out (by kernel_rfl)) (fun _ _ _ h => h) (Or.inl ⟨by rfl, ?_⟩) ?_ ?_
  rotate_left
  · intro w'; go_simp; with_reducible rfl
  rotate_left
  · simp only [Act.put, sa_, sz_, ss_, i64_w, i32_w]; rfl
  refine pure_ (i := 12) (N := some 90) (v := ?_) (a' := ?_) (bl 19 8079) rfl rfl (any_of HT_.out (by kernel_rfl)) (fun _ _ _ h => h) (Or.inl ⟨by rfl, ?_⟩) ?_ ?_
  rotate_left
  · intro w'; go_simp; with_reducible rfl
  rotate_left
  · simp only [Act.put, sa_, sz_, ss_, i64_w, i32_w]; rfl
  refine pure_ (i := 13) (N := some 91) (v := ?_) (a' := ?_) (bl 19 16271) rfl rfl (any_of HT_.out (by kernel_rfl)) (fun _ _ _ h => h) (Or.inl ⟨by rfl, ?_⟩) ?_ ?_
  rotate_left
  · intro w'; go_simp; with_reducible rfl
  rotate_left
  · simp only [Act.put, sa_, sz_, ss_, i64_w, i32_w]; rfl
  refine pure_ (i := 14) (N := some 92) (v := ?_) (a' := ?_) (bl 19 32655) rfl rfl (any_of HT_.out (by kernel_rfl)) (fun _ _ _ h => h) (Or.inl ⟨by rfl, ?_⟩) ?_ ?_
  rotate_left
  · intro w'; go_simp; with_reducible rfl
  rotate_left
  · simp only [Act.put, sa_, sz_, ss_, i64_w, i32_w]; rfl
  refine take_ (i := 4) (N := some 82) (v := ?_) (a' := ?_) (bl 19 32671) rfl rfl (take_ofW HT_.out HW_.out (by kernel_rfl)) (fun _ _ _ h => h) (Or.inl ⟨by rfl, ?_⟩) hHeld ?_ ?_
  rotate_left
  · intro w' s0
    go_simp
    with_reducible rfl
  rotate_left
  · simp only [Act.put, sa_, sz_, ss_, i64_w, i32_w]; rfl
  refine pure_ (i := 5) (N := some 83) (v := ?_) (a' := ?_) (bl 19 32703) rfl rfl (any_of HT_.out (by kernel_rfl)) (fun _ _ _ h => h) (Or.inl ⟨by rfl, ?_⟩) ?_ ?_
  rotate_left
  · intro w'; go_simp; with_reducible rfl
  rotate_left
  · simp only [Act.put, sa_, sz_, ss_, i64_w, i32_w]; rfl
  refine join_ (σ := Value × Value × Nat) 1 (bl 19 262143) (fun s_ => [(84, s_.1), (93, s_.2.1), (11, .pointer (some ⟨s_.2.2, 0, none⟩)), (94, .agg #[.int .i64 (wrap64 (rd l0 (ji43))), s_.2.1])]) (fun s_ w' => (w'.cell? (ad417.add (ji43).toNat) = some (.int .u8 (rd l0 (ji43)))) ∧ (Kd.R (Kd.int .u8) 5 w' w.heap.size (fun _ => True) s_.2.1 y430) ∧ (w'.heap[gb399]? = some (.cells #[.int .i64 0, .slice none 0 0] 35 (0, 0))) ∧ (w'.heap[gb400]? = some (.cells #[.int .i64 0, .slice none 0 0] 35 (0, 0))) ∧ (w'.heap[s_.2.2]? = some (.cells #[.int .i64 0, .slice none 0 0] 35 (0, 0))) ∧ (w.heap.size ≤ s_.2.2) ∧ (w.heap.size ≤ s_.2.2) ∧ (gb399 ≠ s_.2.2) ∧ (s_.2.2 ≠ gb399) ∧ (gb400 ≠ s_.2.2) ∧ (s_.2.2 ≠ gb400) ∧ (Below w.heap.size w w')) ?_ ?_
  rotate_left
  · intro hCont
    refine two_ (i := 6) (j := 17) (Ni := some 84) (Nj := some 11) (bl 19 32767) (bl 19 163775) rfl rfl rfl rfl (two_of HT_.out (by kernel_rfl)) (by decide) (by decide) (fun K hK => ?_) (fun K hK => ?_)
    · skip
      refine Kd.R_lit_step (Kd.int .u8) _ 5 ?hg (N := 84) ?hd (xs := ([] : List Int)) (inner := []) (ok := fun _ => True) (okp := fun _ => True) ?hr ?hp (fun _ hk => hk) trivial (Below.refl _ _) (Nat.le_refl _) (by simp) ?_; (case hd => rfl); (case hg => rfl); (case hr => (go_simp; done)); (case hp => exact (Reps.none _ _))
      intro v427 w70 ho71 hb hg_ hnew_
      clear hg_ hnew_
      (rw [← Ny426.out] at ho71)
      have n0_ := Aside0.mk (Kd.R_lower ho71 (below_size HB.out))
      have n1_ := Aside0.mk (blk_below (g := gb399) (o := .cells #[.int .i64 0, .slice none 0 0] 35 (0, 0)) (by exact BK399.out) hb)
      have n2_ := Aside0.mk (blk_below (g := gb400) (o := .cells #[.int .i64 0, .slice none 0 0] 35 (0, 0)) (by exact BK400.out) hb)
      have n3_ := Aside0.mk (below_step HB.out hb)
      clear BK399
      clear BK400
      clear HB
      have HO428 := n0_
      have BK399 := n1_
      have BK400 := n2_
      have HB := n3_
      clear n0_ n1_ n2_ n3_
      clear hb ho71
      refine hK.out _ _ ((pw_cell_below HB.out hw425_0)) (fun hHeld => ?_)
      clear hK K
      refine norm_ (a' := ?_) ?_ ?_
      rotate_left
      · show Act.put _ (some 84) _ = _
        simp only [Act.put, sa_, sz_, ss_, i64_w, i32_w]
        rfl
      refine two_ (i := 15) (j := 17) (Ni := some 93) (Nj := some 11) (bl 19 65535) (bl 19 163839) rfl rfl rfl rfl (two_of HT_.out (by kernel_rfl)) (by decide) (by decide) (fun K hK => ?_) (fun K hK => ?_)
      · skip
        refine Kd.R_append_rows_step (Kd.int .u8) (w0 := w) w.heap.size (by rfl) (.tmp 84) (.tmp 92) 22 5 (.int .u8 0) 1 rfl Try.underlying22 info5 rfl (by decide) (by omega) v427 y426 ((l0.take ((ji63) : Int).toNat).drop ((ji58) : Int).toNat) _ _ _ (fun _ => True) (fun _ => False) rfl rfl ?aO ?aR (fun _ _ h => h) (fun _ h => h.elim) ?aF ?aB ?aS ?aL ?_
        (case aR => ((rw [← show ((l0.take ((ji63) : Int).toNat).drop ((ji58) : Int).toNat).length = ((ji63).toNat - (ji58).toNat) from (by rw [List.length_drop, List.length_take]; have h_ : ((ji63) : Int) ≤ (l0.length : Int) := of_decide_eq_true (by (with_reducible assumption)); omega)]; repeat ((exact (Kd.C_below HR429.out HB.out))))))
        (case aB => exact HB.out)
        (case aF => exact (fun _ _ => trivial))
        (case aO => exact (by exact HO428.out))
        (case aS => exact (below_size HB.out))
        (case aL => have := LMc62.out; (try (rw [hji63] at this)); (try first | rw [hji58] at this); have hlx_ := (show ((l0.take ((ji63) : Int).toNat).drop ((ji58) : Int).toNat).length = ((ji63).toNat - (ji58).toNat) from (by rw [List.length_drop, List.length_take]; have h_ : ((ji63) : Int) ≤ (l0.length : Int) := of_decide_eq_true (by (with_reducible assumption)); omega)); omega)
        intro v431 w72 ho hb hg hat
        rw [← Ny430.out] at ho
        have n0_ := Aside0.mk (blk_grown (g := gb399) (o := .cells #[.int .i64 0, .slice none 0 0] 35 (0, 0)) (by exact BK399.out) hg (Kd.R_ne HO428.out BK399.out (by decide)))
        have n1_ := Aside0.mk (blk_grown (g := gb400) (o := .cells #[.int .i64 0, .slice none 0 0] 35 (0, 0)) (by exact BK400.out) hg (Kd.R_ne HO428.out BK400.out (by decide)))
        have n2_ := Aside0.mk (hb)
        have n3_ := Aside0.mk (ho)
        clear BK399
        clear BK400
        clear HB
        clear HO428
        have BK399 := n0_
        have BK400 := n1_
        have HB := n2_
        have HO432 := n3_
        clear n0_ n1_ n2_ n3_
        clear ho hb hg hat
        obtain ⟨Ao73, co73, eo73⟩ := Kd.R_slice HO432.out
        (subst eo73)
        refine hK.out _ _ ((pw_cell_below HB.out hw425_0)) (fun hHeld => ?_)
        clear hK K
        refine norm_ (a' := ?_) ?_ ?_
        rotate_left
        · show Act.put _ (some 93) _ = _
          simp only [Act.put, sa_, sz_, ss_, i64_w, i32_w]
          rfl
        refine pure_ (i := 16) (N := some 94) (v := ?_) (a' := ?_) (bl 19 131071) rfl rfl (any_of HT_.out (by kernel_rfl)) (fun _ _ _ h => h) (Or.inl ⟨by rfl, ?_⟩) ?_ ?_
        rotate_left
        · intro w'; go_simp; with_reducible rfl
        rotate_left
        · simp only [Act.put, sa_, sz_, ss_, i64_w, i32_w]; rfl
        refine one_ (i := 17) (N := some 11) (bl 19 262143) rfl rfl (one_of HT_.out (by kernel_rfl)) (by decide) (fun K hK => ?_)
        refine box_step ?hg (N := 11) ?hd (cs := #[.int .i64 0, .slice none 0 0]) (t := 35) ?hr ?_; (case hd => rfl); (case hg => rfl); (case hr => (go_simp; done))
        intro gb433 hg w74 hbox hb
        have n0_ := Aside0.mk (Kd.R_below (by exact HO432.out) hb)
        have n1_ := Aside0.mk (blk_below (g := gb399) (o := .cells #[.int .i64 0, .slice none 0 0] 35 (0, 0)) (by exact BK399.out) hb)
        have n2_ := Aside0.mk (blk_below (g := gb400) (o := .cells #[.int .i64 0, .slice none 0 0] 35 (0, 0)) (by exact BK400.out) hb)
        have n3_ := Aside0.mk (below_step HB.out hb)
        have n4_ := Aside0.mk (hbox)
        have n5_ := Aside0.mk ((by rw [hg]; exact (below_size HB.out) : w.heap.size ≤ gb433))
        have n6_ := Aside0.mk ((by rw [hg]; exact (below_size HB.out) : w.heap.size ≤ gb433))
        have n7_ := Aside0.mk ((by rw [hg]; exact Nat.ne_of_lt (blk_lt (g := gb399) (o := .cells #[.int .i64 0, .slice none 0 0] 35 (0, 0)) (by exact BK399.out)) : gb399 ≠ gb433))
        have n8_ := Aside0.mk ((by rw [hg]; exact Nat.ne_of_gt (blk_lt (g := gb399) (o := .cells #[.int .i64 0, .slice none 0 0] 35 (0, 0)) (by exact BK399.out)) : gb433 ≠ gb399))
        have n9_ := Aside0.mk ((by rw [hg]; exact Nat.ne_of_lt (blk_lt (g := gb400) (o := .cells #[.int .i64 0, .slice none 0 0] 35 (0, 0)) (by exact BK400.out)) : gb400 ≠ gb433))
        have n10_ := Aside0.mk ((by rw [hg]; exact Nat.ne_of_gt (blk_lt (g := gb400) (o := .cells #[.int .i64 0, .slice none 0 0] 35 (0, 0)) (by exact BK400.out)) : gb433 ≠ gb400))
        clear HO432
        clear BK399
        clear BK400
        clear HB
        have HO432 := n0_
        have BK399 := n1_
        have BK400 := n2_
        have HB := n3_
        have BK433 := n4_
        have GW433 := n5_
        have GE433 := n6_
        have NB399_433 := n7_
        have NB433_399 := n8_
        have NB400_433 := n9_
        have NB433_400 := n10_
        clear n0_ n1_ n2_ n3_ n4_ n5_ n6_ n7_ n8_ n9_ n10_
        clear hb hbox hg
        refine hK.out _ _ ((pw_cell_below HB.out hw425_0)) (fun hHeld => ?_)
        clear hK K
        refine norm_ (a' := ?_) ?_ ?_
        rotate_left
        · show Act.put _ (some 11) _ = _
          simp only [Act.put, sa_, sz_, ss_, i64_w, i32_w]
          rfl
        exact norm_ (by simp only [putAll, Act.put, sa_, sz_, ss_]) (hCont (v427, .slice Ao73 y430.length co73, gb433) _ ⟨hHeld, (by exact HO432.out), (by exact BK399.out), (by exact BK400.out), (by exact BK433.out), GW433.out, GE433.out, NB399_433.out, NB433_399.out, NB400_433.out, NB433_400.out, HB.out⟩)
      · skip
        refine box_step ?hg (N := 11) ?hd (cs := #[.int .i64 0, .slice none 0 0]) (t := 35) ?hr ?_; (case hd => rfl); (case hg => rfl); (case hr => (go_simp; done))
        intro gb433 hg w72 hbox hb
        have n0_ := Aside0.mk (Kd.R_below (by exact HO428.out) hb)
        have n1_ := Aside0.mk (blk_below (g := gb399) (o := .cells #[.int .i64 0, .slice none 0 0] 35 (0, 0)) (by exact BK399.out) hb)
        have n2_ := Aside0.mk (blk_below (g := gb400) (o := .cells #[.int .i64 0, .slice none 0 0] 35 (0, 0)) (by exact BK400.out) hb)
        have n3_ := Aside0.mk (below_step HB.out hb)
        have n4_ := Aside0.mk (hbox)
        have n5_ := Aside0.mk ((by rw [hg]; exact (below_size HB.out) : w.heap.size ≤ gb433))
        have n6_ := Aside0.mk ((by rw [hg]; exact (below_size HB.out) : w.heap.size ≤ gb433))
        have n7_ := Aside0.mk ((by rw [hg]; exact Nat.ne_of_lt (blk_lt (g := gb399) (o := .cells #[.int .i64 0, .slice none 0 0] 35 (0, 0)) (by exact BK399.out)) : gb399 ≠ gb433))
        have n8_ := Aside0.mk ((by rw [hg]; exact Nat.ne_of_gt (blk_lt (g := gb399) (o := .cells #[.int .i64 0, .slice none 0 0] 35 (0, 0)) (by exact BK399.out)) : gb433 ≠ gb399))
        have n9_ := Aside0.mk ((by rw [hg]; exact Nat.ne_of_lt (blk_lt (g := gb400) (o := .cells #[.int .i64 0, .slice none 0 0] 35 (0, 0)) (by exact BK400.out)) : gb400 ≠ gb433))
        have n10_ := Aside0.mk ((by rw [hg]; exact Nat.ne_of_gt (blk_lt (g := gb400) (o := .cells #[.int .i64 0, .slice none 0 0] 35 (0, 0)) (by exact BK400.out)) : gb433 ≠ gb400))
        clear HO428
        clear BK399
        clear BK400
        clear HB
        have HO428 := n0_
        have BK399 := n1_
        have BK400 := n2_
        have HB := n3_
        have BK433 := n4_
        have GW433 := n5_
        have GE433 := n6_
        have NB399_433 := n7_
        have NB433_399 := n8_
        have NB400_433 := n9_
        have NB433_400 := n10_
        clear n0_ n1_ n2_ n3_ n4_ n5_ n6_ n7_ n8_ n9_ n10_
        clear hb hbox hg
        refine hK.out _ _ ((pw_cell_below HB.out hw425_0)) (fun hHeld => ?_)
        clear hK K
        refine norm_ (a' := ?_) ?_ ?_
        rotate_left
        · show Act.put _ (some 11) _ = _
          simp only [Act.put, sa_, sz_, ss_, i64_w, i32_w]
          rfl
        refine one_ (i := 15) (N := some 93) (bl 19 196607) rfl rfl (one_of HT_.out (by kernel_rfl)) (by decide) (fun K hK => ?_)
        refine Kd.R_append_rows_step (Kd.int .u8) (w0 := w) w.heap.size (by rfl) (.tmp 84) (.tmp 92) 22 5 (.int .u8 0) 1 rfl Try.underlying22 info5 rfl (by decide) (by omega) v427 y426 ((l0.take ((ji63) : Int).toNat).drop ((ji58) : Int).toNat) _ _ _ (fun _ => True) (fun _ => False) rfl rfl ?aO ?aR (fun _ _ h => h) (fun _ h => h.elim) ?aF ?aB ?aS ?aL ?_
        (case aR => ((rw [← show ((l0.take ((ji63) : Int).toNat).drop ((ji58) : Int).toNat).length = ((ji63).toNat - (ji58).toNat) from (by rw [List.length_drop, List.length_take]; have h_ : ((ji63) : Int) ≤ (l0.length : Int) := of_decide_eq_true (by (with_reducible assumption)); omega)]; repeat ((exact (Kd.C_below HR429.out HB.out))))))
        (case aB => exact HB.out)
        (case aF => exact (fun _ _ => trivial))
        (case aO => exact (by exact HO428.out))
        (case aS => exact (below_size HB.out))
        (case aL => have := LMc62.out; (try (rw [hji63] at this)); (try first | rw [hji58] at this); have hlx_ := (show ((l0.take ((ji63) : Int).toNat).drop ((ji58) : Int).toNat).length = ((ji63).toNat - (ji58).toNat) from (by rw [List.length_drop, List.length_take]; have h_ : ((ji63) : Int) ≤ (l0.length : Int) := of_decide_eq_true (by (with_reducible assumption)); omega)); omega)
        intro v431 w73 ho hb hg hat
        rw [← Ny430.out] at ho
        have n0_ := Aside0.mk (blk_grown (g := gb399) (o := .cells #[.int .i64 0, .slice none 0 0] 35 (0, 0)) (by exact BK399.out) hg (Kd.R_ne HO428.out BK399.out (by decide)))
        have n1_ := Aside0.mk (blk_grown (g := gb400) (o := .cells #[.int .i64 0, .slice none 0 0] 35 (0, 0)) (by exact BK400.out) hg (Kd.R_ne HO428.out BK400.out (by decide)))
        have n2_ := Aside0.mk (blk_grown (g := gb433) (o := .cells #[.int .i64 0, .slice none 0 0] 35 (0, 0)) (by exact BK433.out) hg (Kd.R_ne HO428.out BK433.out (by decide)))
        have n3_ := Aside0.mk (hb)
        have n4_ := Aside0.mk (ho)
        clear BK399
        clear BK400
        clear BK433
        clear HB
        clear HO428
        have BK399 := n0_
        have BK400 := n1_
        have BK433 := n2_
        have HB := n3_
        have HO432 := n4_
        clear n0_ n1_ n2_ n3_ n4_
        clear ho hb hg hat
        obtain ⟨Ao74, co74, eo74⟩ := Kd.R_slice HO432.out
        (subst eo74)
        refine hK.out _ _ ((pw_cell_below HB.out hw425_0)) (fun hHeld => ?_)
        clear hK K
        refine norm_ (a' := ?_) ?_ ?_
        rotate_left
        · show Act.put _ (some 93) _ = _
          simp only [Act.put, sa_, sz_, ss_, i64_w, i32_w]
          rfl
        refine pure_ (i := 16) (N := some 94) (v := ?_) (a' := ?_) (bl 19 262143) rfl rfl (any_of HT_.out (by kernel_rfl)) (fun _ _ _ h => h) (Or.inl ⟨by rfl, ?_⟩) ?_ ?_
        rotate_left
        · intro w'; go_simp; with_reducible rfl
        rotate_left
        · simp only [Act.put, sa_, sz_, ss_, i64_w, i32_w]; rfl
        exact norm_ (by simp only [putAll, Act.put, sa_, sz_, ss_]) (hCont (v427, .slice Ao74 y430.length co74, gb433) _ ⟨hHeld, (by exact HO432.out), (by exact BK399.out), (by exact BK400.out), (by exact BK433.out), GW433.out, GE433.out, NB399_433.out, NB433_399.out, NB400_433.out, NB433_400.out, HB.out⟩)
    · skip
      refine box_step ?hg (N := 11) ?hd (cs := #[.int .i64 0, .slice none 0 0]) (t := 35) ?hr ?_; (case hd => rfl); (case hg => rfl); (case hr => (go_simp; done))
      intro gb433 hg w70 hbox hb
      have n0_ := Aside0.mk (blk_below (g := gb399) (o := .cells #[.int .i64 0, .slice none 0 0] 35 (0, 0)) (by exact BK399.out) hb)
      have n1_ := Aside0.mk (blk_below (g := gb400) (o := .cells #[.int .i64 0, .slice none 0 0] 35 (0, 0)) (by exact BK400.out) hb)
      have n2_ := Aside0.mk (below_step HB.out hb)
      have n3_ := Aside0.mk (hbox)
      have n4_ := Aside0.mk ((by rw [hg]; exact (below_size HB.out) : w.heap.size ≤ gb433))
      have n5_ := Aside0.mk ((by rw [hg]; exact (below_size HB.out) : w.heap.size ≤ gb433))
      have n6_ := Aside0.mk ((by rw [hg]; exact Nat.ne_of_lt (blk_lt (g := gb399) (o := .cells #[.int .i64 0, .slice none 0 0] 35 (0, 0)) (by exact BK399.out)) : gb399 ≠ gb433))
      have n7_ := Aside0.mk ((by rw [hg]; exact Nat.ne_of_gt (blk_lt (g := gb399) (o := .cells #[.int .i64 0, .slice none 0 0] 35 (0, 0)) (by exact BK399.out)) : gb433 ≠ gb399))
      have n8_ := Aside0.mk ((by rw [hg]; exact Nat.ne_of_lt (blk_lt (g := gb400) (o := .cells #[.int .i64 0, .slice none 0 0] 35 (0, 0)) (by exact BK400.out)) : gb400 ≠ gb433))
      have n9_ := Aside0.mk ((by rw [hg]; exact Nat.ne_of_gt (blk_lt (g := gb400) (o := .cells #[.int .i64 0, .slice none 0 0] 35 (0, 0)) (by exact BK400.out)) : gb433 ≠ gb400))
      clear BK399
      clear BK400
      clear HB
      have BK399 := n0_
      have BK400 := n1_
      have HB := n2_
      have BK433 := n3_
      have GW433 := n4_
      have GE433 := n5_
      have NB399_433 := n6_
      have NB433_399 := n7_
      have NB400_433 := n8_
      have NB433_400 := n9_
      clear n0_ n1_ n2_ n3_ n4_ n5_ n6_ n7_ n8_ n9_
      clear hb hbox hg
      refine hK.out _ _ ((pw_cell_below HB.out hw425_0)) (fun hHeld => ?_)
      clear hK K
      refine norm_ (a' := ?_) ?_ ?_
      rotate_left
      · show Act.put _ (some 11) _ = _
        simp only [Act.put, sa_, sz_, ss_, i64_w, i32_w]
        rfl
      refine one_ (i := 6) (N := some 84) (bl 19 163839) rfl rfl (one_of HT_.out (by kernel_rfl)) (by decide) (fun K hK => ?_)
      refine Kd.R_lit_step (Kd.int .u8) _ 5 ?hg (N := 84) ?hd (xs := ([] : List Int)) (inner := []) (ok := fun _ => True) (okp := fun _ => True) ?hr ?hp (fun _ hk => hk) trivial (Below.refl _ _) (Nat.le_refl _) (by simp) ?_; (case hd => rfl); (case hg => rfl); (case hr => (go_simp; done)); (case hp => exact (Reps.none _ _))
      intro v427 w71 ho72 hb hg_ hnew_
      clear hg_ hnew_
      (rw [← Ny426.out] at ho72)
      have n0_ := Aside0.mk (Kd.R_lower ho72 (below_size HB.out))
      have n1_ := Aside0.mk (blk_below (g := gb399) (o := .cells #[.int .i64 0, .slice none 0 0] 35 (0, 0)) (by exact BK399.out) hb)
      have n2_ := Aside0.mk (blk_below (g := gb400) (o := .cells #[.int .i64 0, .slice none 0 0] 35 (0, 0)) (by exact BK400.out) hb)
      have n3_ := Aside0.mk (blk_below (g := gb433) (o := .cells #[.int .i64 0, .slice none 0 0] 35 (0, 0)) (by exact BK433.out) hb)
      have n4_ := Aside0.mk (below_step HB.out hb)
      clear BK399
      clear BK400
      clear BK433
      clear HB
      have HO428 := n0_
      have BK399 := n1_
      have BK400 := n2_
      have BK433 := n3_
      have HB := n4_
      clear n0_ n1_ n2_ n3_ n4_
      clear hb ho72
      refine hK.out _ _ ((pw_cell_below HB.out hw425_0)) (fun hHeld => ?_)
      clear hK K
      refine norm_ (a' := ?_) ?_ ?_
      rotate_left
      · show Act.put _ (some 84) _ = _
        simp only [Act.put, sa_, sz_, ss_, i64_w, i32_w]
        rfl
      refine one_ (i := 15) (N := some 93) (bl 19 196607) rfl rfl (one_of HT_.out (by kernel_rfl)) (by decide) (fun K hK => ?_)
      refine Kd.R_append_rows_step (Kd.int .u8) (w0 := w) w.heap.size (by rfl) (.tmp 84) (.tmp 92) 22 5 (.int .u8 0) 1 rfl Try.underlying22 info5 rfl (by decide) (by omega) v427 y426 ((l0.take ((ji63) : Int).toNat).drop ((ji58) : Int).toNat) _ _ _ (fun _ => True) (fun _ => False) rfl rfl ?aO ?aR (fun _ _ h => h) (fun _ h => h.elim) ?aF ?aB ?aS ?aL ?_
      (case aR => ((rw [← show ((l0.take ((ji63) : Int).toNat).drop ((ji58) : Int).toNat).length = ((ji63).toNat - (ji58).toNat) from (by rw [List.length_drop, List.length_take]; have h_ : ((ji63) : Int) ≤ (l0.length : Int) := of_decide_eq_true (by (with_reducible assumption)); omega)]; repeat ((exact (Kd.C_below HR429.out HB.out))))))
      (case aB => exact HB.out)
      (case aF => exact (fun _ _ => trivial))
      (case aO => exact (by exact HO428.out))
      (case aS => exact (below_size HB.out))
      (case aL => have := LMc62.out; (try (rw [hji63] at this)); (try first | rw [hji58] at this); have hlx_ := (show ((l0.take ((ji63) : Int).toNat).drop ((ji58) : Int).toNat).length = ((ji63).toNat - (ji58).toNat) from (by rw [List.length_drop, List.length_take]; have h_ : ((ji63) : Int) ≤ (l0.length : Int) := of_decide_eq_true (by (with_reducible assumption)); omega)); omega)
      intro v431 w73 ho hb hg hat
      rw [← Ny430.out] at ho
      have n0_ := Aside0.mk (blk_grown (g := gb399) (o := .cells #[.int .i64 0, .slice none 0 0] 35 (0, 0)) (by exact BK399.out) hg (Kd.R_ne HO428.out BK399.out (by decide)))
      have n1_ := Aside0.mk (blk_grown (g := gb400) (o := .cells #[.int .i64 0, .slice none 0 0] 35 (0, 0)) (by exact BK400.out) hg (Kd.R_ne HO428.out BK400.out (by decide)))
      have n2_ := Aside0.mk (blk_grown (g := gb433) (o := .cells #[.int .i64 0, .slice none 0 0] 35 (0, 0)) (by exact BK433.out) hg (Kd.R_ne HO428.out BK433.out (by decide)))
      have n3_ := Aside0.mk (hb)
      have n4_ := Aside0.mk (ho)
      clear BK399
      clear BK400
      clear BK433
      clear HB
      clear HO428
      have BK399 := n0_
      have BK400 := n1_
      have BK433 := n2_
      have HB := n3_
      have HO432 := n4_
      clear n0_ n1_ n2_ n3_ n4_
      clear ho hb hg hat
      obtain ⟨Ao74, co74, eo74⟩ := Kd.R_slice HO432.out
      (subst eo74)
      refine hK.out _ _ ((pw_cell_below HB.out hw425_0)) (fun hHeld => ?_)
      clear hK K
      refine norm_ (a' := ?_) ?_ ?_
      rotate_left
      · show Act.put _ (some 93) _ = _
        simp only [Act.put, sa_, sz_, ss_, i64_w, i32_w]
        rfl
      refine pure_ (i := 16) (N := some 94) (v := ?_) (a' := ?_) (bl 19 262143) rfl rfl (any_of HT_.out (by kernel_rfl)) (fun _ _ _ h => h) (Or.inl ⟨by rfl, ?_⟩) ?_ ?_
      rotate_left
      · intro w'; go_simp; with_reducible rfl
      rotate_left
      · simp only [Act.put, sa_, sz_, ss_, i64_w, i32_w]; rfl
      exact norm_ (by simp only [putAll, Act.put, sa_, sz_, ss_]) (hCont (v427, .slice Ao74 y430.length co74, gb433) _ ⟨hHeld, (by exact HO432.out), (by exact BK399.out), (by exact BK400.out), (by exact BK433.out), GW433.out, GE433.out, NB399_433.out, NB433_399.out, NB400_433.out, NB433_400.out, HB.out⟩)
  rintro ⟨v427, v431, gb433⟩ w75 ⟨hS_, h0_, h1_, h2_, h3_, h4_, h5_, h6_, h7_, h8_, h9_, h10_⟩
  have n0_ : Aside0 (Kd.R (Kd.int .u8) 5 w75 w.heap.size (fun _ => True) v431 y430) := ⟨h0_⟩
  have n1_ : Aside0 (w75.heap[gb399]? = some (.cells #[.int .i64 0, .slice none 0 0] 35 (0, 0))) := ⟨h1_⟩
  have n2_ : Aside0 (w75.heap[gb400]? = some (.cells #[.int .i64 0, .slice none 0 0] 35 (0, 0))) := ⟨h2_⟩
  have n3_ : Aside0 (w75.heap[gb433]? = some (.cells #[.int .i64 0, .slice none 0 0] 35 (0, 0))) := ⟨h3_⟩
  have n4_ : Aside0 (w.heap.size ≤ gb433) := ⟨h4_⟩
  have n5_ : Aside0 (w.heap.size ≤ gb433) := ⟨h5_⟩
  have n6_ : Aside0 (gb399 ≠ gb433) := ⟨h6_⟩
  have n7_ : Aside0 (gb433 ≠ gb399) := ⟨h7_⟩
  have n8_ : Aside0 (gb400 ≠ gb433) := ⟨h8_⟩
  have n9_ : Aside0 (gb433 ≠ gb400) := ⟨h9_⟩
  have n10_ : Aside0 (Below w.heap.size w w75) := ⟨h10_⟩
  clear BK399
  clear BK400
  clear HB
  clear h0_ h1_ h2_ h3_ h4_ h5_ h6_ h7_ h8_ h9_ h10_
  have HO432 := n0_
  have BK399 := n1_
  have BK400 := n2_
  have BK433 := n3_
  have GW433 := n4_
  have GE433 := n5_
  have NB399_433 := n6_
  have NB433_399 := n7_
  have NB400_433 := n8_
  have NB433_400 := n9_
  have HB := n10_
  clear n0_ n1_ n2_ n3_ n4_ n5_ n6_ n7_ n8_ n9_ n10_
  have hHeld : w75.cell? (ad417.add (ji43).toNat) = some (.int .u8 (rd l0 (ji43))) := hS_
  obtain ⟨Ao76, co76, eo76⟩ := Kd.R_slice HO432.out
  (subst eo76)
  refine norm_ (a' := ?_) ?_ ?_
  rotate_left
  · simp only [putAll, Act.put, sa_, sz_, ss_]
    rfl
  refine one_ (i := 18) (N := none) (bl 19 524287) rfl rfl (one_of HT_.out (by kernel_rfl)) (by decide) (fun K hK => ?_)
  have hs77 : w75.cell? ⟨gb433, 0, none⟩ = some (.int .i64 0) := (blk_cell BK433.out 0).trans rfl
  have hfs77 := blk_frozen BK433.out 0
  have hns77_0 := NB399_433.out
  have hns77_1 := NB400_433.out
  have hms77_0 := NB433_399.out
  have hms77_1 := NB433_400.out
  have hs78 : w75.cell? ⟨gb433, 1, none⟩ = some (.slice none 0 0) := (blk_cell BK433.out 1).trans rfl
  have hfs78 := blk_frozen BK433.out 1
  have hns78_0 := NB399_433.out
  have hns78_1 := NB400_433.out
  have hms78_0 := NB433_399.out
  have hms78_1 := NB433_400.out
  refine skip_ (w1 := ?_) (by rfl) rfl ?_ ?_
  rotate_left
  · go_simp
    rfl
  refine hK.out _ _ (((cell_far (p := ⟨gb433, _, none⟩) (by (exact Nat.ne_of_lt (Nat.lt_of_lt_of_le (by have := World.block_lt_of_cell? _ _ hw425_0; (exact this)) GW433.out))) _).trans (((cell_far (p := ⟨gb433, _, none⟩) (by (exact Nat.ne_of_lt (Nat.lt_of_lt_of_le (by have := World.block_lt_of_cell? _ _ hw425_0; (exact this)) GW433.out))) _).trans (hHeld))))) (fun hHeld => ?_)
  clear hK K
  refine done_ (done_of HT_.out (by kernel_rfl)) ?_
  try go_wp2
  have n0_ : Aside0 (Kd.R (Kd.int .u8) 5 ((w75.setCell ⟨gb433, 0, none⟩ (.int .i64 (wrap64 (rd l0 (ji43))))).setCell ⟨gb433, 1, none⟩ (.slice Ao76 y430.length co76)) w.heap.size (fun _ => True) (.slice Ao76 y430.length co76) y430) := ⟨by exact Kd.R_mono (Kd.R_far (p := ⟨gb433, 1, none⟩) (Kd.R_far (p := ⟨gb433, 0, none⟩) (Kd.R_types HO432.out BK433.out (by decide)) (fun _ hk => hk.2) (.int .i64 (wrap64 (rd l0 (ji43))))) (fun _ hk => hk.2) (.slice Ao76 y430.length co76)) (fun _ hk => trivial)⟩
  have n1_ : Aside0 (((w75.setCell ⟨gb433, 0, none⟩ (.int .i64 (wrap64 (rd l0 (ji43))))).setCell ⟨gb433, 1, none⟩ (.slice Ao76 y430.length co76)).heap[gb399]? = some (.cells #[.int .i64 0, .slice none 0 0] 35 (0, 0))) := ⟨by refine blk_far ?_ NB399_433.out _; refine blk_far ?_ NB399_433.out _; exact BK399.out⟩
  have n2_ : Aside0 (((w75.setCell ⟨gb433, 0, none⟩ (.int .i64 (wrap64 (rd l0 (ji43))))).setCell ⟨gb433, 1, none⟩ (.slice Ao76 y430.length co76)).heap[gb400]? = some (.cells #[.int .i64 0, .slice none 0 0] 35 (0, 0))) := ⟨by refine blk_far ?_ NB400_433.out _; refine blk_far ?_ NB400_433.out _; exact BK400.out⟩
  have n3_ : Aside0 (((w75.setCell ⟨gb433, 0, none⟩ (.int .i64 (wrap64 (rd l0 (ji43))))).setCell ⟨gb433, 1, none⟩ (.slice Ao76 y430.length co76)).heap[gb433]? = some (.cells #[.int .i64 (wrap64 (rd l0 (ji43))), .slice Ao76 y430.length co76] 35 (0, 0))) := ⟨by refine blk_put (cs := #[.int .i64 (wrap64 (rd l0 (ji43))), .slice none 0 0]) ?_ 1 _ rfl; refine blk_put (cs := #[.int .i64 0, .slice none 0 0]) ?_ 0 _ rfl; exact BK433.out⟩
  have n4_ : Aside0 (Below w.heap.size w ((w75.setCell ⟨gb433, 0, none⟩ (.int .i64 (wrap64 (rd l0 (ji43))))).setCell ⟨gb433, 1, none⟩ (.slice Ao76 y430.length co76))) := ⟨by repeat (with_reducible first | exact HB.out | refine below_set ?_ GE433.out)⟩
  (try clear HO432)
  (try clear BK399)
  (try clear BK400)
  (try clear BK433)
  (try clear HB)
  generalize ((w75.setCell ⟨gb433, 0, none⟩ (.int .i64 (wrap64 (rd l0 (ji43))))).setCell ⟨gb433, 1, none⟩ (.slice Ao76 y430.length co76)) = w79 at n0_ n1_ n2_ n3_ n4_ ⊢
  have HO432 := n0_
  have BK399 := n1_
  have BK400 := n2_
  have BK433 := n3_
  have HB := n4_
  clear n0_ n1_ n2_ n3_ n4_
  have n0_ := Aside0.mk (Kd.R_drew HO432.out)
  have n1_ := Aside0.mk (blk_drew BK399.out)
  have n2_ := Aside0.mk (blk_drew BK400.out)
  have n3_ := Aside0.mk (blk_drew BK433.out)
  have n4_ := Aside0.mk (below_drew1 HB.out)
  clear HO432
  clear BK399
  clear BK400
  clear BK433
  clear HB
  have HO432 := n0_
  have BK399 := n1_
  have BK400 := n2_
  have BK433 := n3_
  have HB := n4_
  clear n0_ n1_ n2_ n3_ n4_
  obtain ⟨i081, hi081, _, hsz81, _⟩ := info_parts info5
  obtain ⟨A81, hcut81, hA81, hC81⟩ := print_mid_of (P := Try.prog) (Value.int .u8) 0 22 5 .i64 .i64 Try.underlying22 hi081 hsz81 (some ad417) c0 l0 (ji63) (wrap64 ((wrap64 (a1 + 36)) + x9_2)) (of_decide_eq_true (by (with_reducible assumption))) (by (omega)) (of_decide_eq_true (by (with_reducible assumption))) HC0.out
  have HR437 := Aside0.mk (Kd.C_of_reads (h1 := fun _ => rfl) (hA81 _ (Kd.reads_of_C HR0.out)))
  have HC437 := Aside0.mk hC81
  clear hA81 hC81 hi081 hsz81
  refine start_ (n := 21) (S := fun w' => w'.cell? ⟨gb433, 0, none⟩ = some (.int .i64 (wrap64 (rd l0 (ji43)))) ∧ w'.cell? ⟨gb433, 1, none⟩ = some (.slice Ao76 y430.length co76)) (ds := []) (bl 21 0) (by kernel_rfl) rfl rfl ⟨(blk_cell BK433.out 0).trans rfl, (blk_cell BK433.out 1).trans rfl⟩ (fun hHeld => ?_); refine with_tabW notaryref46_Read.tab20 notaryref46_Read.bits20 (fun HT_ HW_ => ?_)
  generalize w79.drew = w80 at HO432 BK399 BK400 BK433 HB HR437 hHeld ⊢
  refine pure_ (i := 2) (N := some 97) (v := ?_) (a' := ?_) (bl 21 4) rfl rfl (any_of HT_.out (by kernel_rfl)) (fun _ _ _ h => h) (Or.inl ⟨by rfl, ?_⟩) ?_ ?_
  rotate_left
  · intro w'; go_simp; with_reducible rfl
  rotate_left
  · simp only [Act.put, sa_, sz_, ss_, i64_w, i32_w]; rfl
  refine pure_ (i := 3) (N := some 98) (v := ?_) (a' := ?_) (bl 21 12) rfl rfl (any_of HT_.out (by kernel_rfl)) (fun _ _ _ h => h) (Or.inl ⟨by rfl, ?_⟩) ?_ ?_
  rotate_left
  · intro w'; go_simp; with_reducible rfl
  rotate_left
  · simp only [Act.put, sa_, sz_, ss_, i64_w, i32_w]; rfl
  refine pure_ (i := 4) (N := some 99) (v := ?_) (a' := ?_) (bl 21 28) rfl rfl (any_of HT_.out (by kernel_rfl)) (fun _ _ _ h => h) (Or.inl ⟨by rfl, ?_⟩) ?_ ?_
  rotate_left
  · intro w'; go_simp; with_reducible rfl
  rotate_left
  · simp only [Act.put, sa_, sz_, ss_, i64_w, i32_w]; rfl
  refine pure_ (i := 5) (N := some 100) (v := ?_) (a' := ?_) (bl 21 60) rfl rfl (any_of HT_.out (by kernel_rfl)) (fun _ _ _ h => h) (Or.inl ⟨by rfl, ?_⟩) ?_ ?_
  rotate_left
  · intro w'; go_simp; with_reducible rfl
  rotate_left
  · simp only [Act.put, sa_, sz_, ss_, i64_w, i32_w]; rfl
  refine pure_ (i := 6) (N := some 101) (v := ?_) (a' := ?_) (bl 21 124) rfl rfl (any_of HT_.out (by kernel_rfl)) (fun _ _ _ h => h) (Or.inl ⟨by rfl, ?_⟩) ?_ ?_
  rotate_left
  · intro w'; go_simp; with_reducible rfl
  rotate_left
  · simp only [Act.put, sa_, sz_, ss_, i64_w, i32_w]; rfl
  refine pure_ (i := 7) (N := some 102) (v := ?_) (a' := ?_) (bl 21 252) rfl rfl (any_of HT_.out (by kernel_rfl)) (fun _ _ _ h => h) (Or.inl ⟨by rfl, ?_⟩) ?_ ?_
  rotate_left
  · intro w'; go_simp; with_reducible rfl
  rotate_left
  · simp only [Act.put, sa_, sz_, ss_, i64_w, i32_w]; rfl
  refine pure_ (i := 8) (N := some 103) (v := ?_) (a' := ?_) (bl 21 508) rfl rfl (any_of HT_.out (by kernel_rfl)) (fun _ _ _ h => h) (Or.inl ⟨by rfl, ?_⟩) ?_ ?_
  rotate_left
  · intro w'; go_simp; with_reducible rfl
  rotate_left
  · simp only [Act.put, sa_, sz_, ss_, i64_w, i32_w]; rfl
  refine pure_ (i := 9) (N := some 104) (v := ?_) (a' := ?_) (bl 21 1020) rfl rfl (any_of HT_.out (by kernel_rfl)) (fun _ _ _ h => h) (Or.inl ⟨by rfl, ?_⟩) ?_ ?_
  rotate_left
  · intro w'; go_simp; with_reducible rfl
  rotate_left
  · simp only [Act.put, sa_, sz_, ss_, i64_w, i32_w]; rfl
  refine pure_ (i := 10) (N := some 105) (v := ?_) (a' := ?_) (bl 21 2044) rfl rfl (any_of HT_.out (by kernel_rfl)) (fun _ _ _ h => h) (Or.inl ⟨by rfl, ?_⟩) ?_ ?_
  rotate_left
  · intro w'; go_simp; with_reducible rfl
  rotate_left
  · simp only [Act.put, sa_, sz_, ss_, i64_w, i32_w]; rfl
  refine pure_ (i := 11) (N := some 106) (v := ?_) (a' := ?_) (bl 21 4092) rfl rfl (any_of HT_.out (by kernel_rfl)) (fun _ _ _ h => h) (Or.inl ⟨by rfl, ?_⟩) ?_ ?_
  rotate_left
  · intro w'; go_simp; with_reducible rfl
  rotate_left
  · simp only [Act.put, sa_, sz_, ss_, i64_w, i32_w]; rfl
  refine pure_ (i := 13) (N := some 108) (v := ?_) (a' := ?_) (bl 21 12284) rfl rfl (any_of HT_.out (by kernel_rfl)) (fun _ _ _ h => h) (Or.inl ⟨by rfl, ?_⟩) ?_ ?_
  rotate_left
  · intro w'; go_simp; with_reducible rfl
  rotate_left
  · simp only [Act.put, sa_, sz_, ss_, i64_w, i32_w]; rfl
  refine pure_ (i := 14) (N := some 109) (v := ?_) (a' := ?_) (bl 21 28668) rfl rfl (any_of HT_.out (by kernel_rfl)) (fun _ _ _ h => h) (Or.inl ⟨by rfl, ?_⟩) ?_ ?_
  rotate_left
  · intro w'; go_simp; with_reducible rfl
  rotate_left
  · simp only [Act.put, sa_, sz_, ss_, i64_w, i32_w]; rfl
  refine pure_ (i := 15) (N := some 110) (v := ?_) (a' := ?_) (bl 21 61436) rfl rfl (any_of HT_.out (by kernel_rfl)) (fun _ _ _ h => h) (Or.inl ⟨by rfl, ?_⟩) ?_ ?_
  rotate_left
  · intro w'; go_simp; with_reducible rfl
  rotate_left
  · simp only [Act.put, sa_, sz_, ss_, i64_w, i32_w]; rfl
  refine pure_ (i := 16) (N := some 111) (v := ?_) (a' := ?_) (bl 21 126972) rfl rfl (any_of HT_.out (by kernel_rfl)) (fun _ _ _ h => h) (Or.inl ⟨by rfl, ?_⟩) ?_ ?_
  rotate_left
  · intro w'; go_simp; with_reducible rfl
  rotate_left
  · simp only [Act.put, sa_, sz_, ss_, i64_w, i32_w]; rfl
  refine take_ (i := 0) (N := some 95) (v := ?_) (a' := ?_) (bl 21 126973) rfl rfl (take_ofW HT_.out HW_.out (by kernel_rfl)) (fun _ _ _ h => h) (Or.inl ⟨by rfl, ?_⟩) hHeld ?_ ?_
  rotate_left
  · rintro w' ⟨s0, s1⟩
    go_simp
    with_reducible rfl
  rotate_left
  · simp only [Act.put, sa_, sz_, ss_, i64_w, i32_w]; rfl
  refine one_ (i := 1) (N := some 96) (bl 21 126975) rfl rfl (one_of HT_.out (by kernel_rfl)) (by decide) (fun K hK => ?_)
  refine Kd.R_lit_step (Kd.int .u8) _ 5 ?hg (N := 96) ?hd (xs := ([] : List Int)) (inner := []) (ok := fun _ => True) (okp := fun _ => True) ?hr ?hp (fun _ hk => hk) trivial (Below.refl _ _) (Nat.le_refl _) (by simp) ?_; (case hd => rfl); (case hg => rfl); (case hr => (go_simp; done)); (case hp => exact (Reps.none _ _))
  intro v435 w82 ho83 hb hg_ hnew_
  clear hg_ hnew_
  (rw [← Ny434.out] at ho83)
  have n0_ := Aside0.mk (Kd.R_elder' (by exact HO432.out) (Kd.R_base ho83) hb)
  have n1_ := Aside0.mk (Kd.R_lower (Kd.R_new' ho83 (Kd.R_lt (by exact HO432.out))) (below_size HB.out))
  have n2_ := Aside0.mk (blk_below (g := gb399) (o := .cells #[.int .i64 0, .slice none 0 0] 35 (0, 0)) (by exact BK399.out) hb)
  have n3_ := Aside0.mk (blk_below (g := gb400) (o := .cells #[.int .i64 0, .slice none 0 0] 35 (0, 0)) (by exact BK400.out) hb)
  have n4_ := Aside0.mk (blk_below (g := gb433) (o := .cells #[.int .i64 (wrap64 (rd l0 (ji43))), .slice Ao76 y430.length co76] 35 (0, 0)) (by exact BK433.out) hb)
  have n5_ := Aside0.mk (below_step HB.out hb)
  clear HO432
  clear BK399
  clear BK400
  clear BK433
  clear HB
  have HO432 := n0_
  have HO436 := n1_
  have BK399 := n2_
  have BK400 := n3_
  have BK433 := n4_
  have HB := n5_
  clear n0_ n1_ n2_ n3_ n4_ n5_
  clear hb ho83
  refine hK.out _ _ ⟨(blk_cell BK433.out 0).trans rfl, (blk_cell BK433.out 1).trans rfl⟩ (fun hHeld => ?_)
  clear hK K
  refine norm_ (a' := ?_) ?_ ?_
  rotate_left
  · show Act.put _ (some 96) _ = _
    simp only [Act.put, sa_, sz_, ss_, i64_w, i32_w]
    rfl
  refine one_ (i := 12) (N := some 107) (bl 21 131071) rfl rfl (one_of HT_.out (by kernel_rfl)) (by decide) (fun K hK => ?_)
  refine Kd.R_append_rows_step (Kd.int .u8) (w0 := w) w.heap.size (by rfl) (.tmp 96) (.tmp 106) 22 5 (.int .u8 0) 1 rfl Try.underlying22 info5 rfl (by decide) (by omega) v435 y434 ((l0.take ((wrap64 ((wrap64 (a1 + 36)) + x9_2)) : Int).toNat).drop ((ji63) : Int).toNat) _ _ _ (fun k_ => some k_ ≠ (.slice Ao76 y430.length co76 : Value).ownBlock) (fun _ => False) rfl rfl ?aO ?aR (fun _ _ h => h) (fun _ h => h.elim) ?aF ?aB ?aS ?aL ?_
  (case aR => ((rw [← show ((l0.take ((wrap64 ((wrap64 (a1 + 36)) + x9_2)) : Int).toNat).drop ((ji63) : Int).toNat).length = ((wrap64 ((wrap64 (a1 + 36)) + x9_2)).toNat - (ji63).toNat) from (by rw [List.length_drop, List.length_take]; have h_ : ((wrap64 ((wrap64 (a1 + 36)) + x9_2)) : Int) ≤ (l0.length : Int) := of_decide_eq_true (by (with_reducible assumption)); omega)]; repeat ((exact (Kd.C_below HR437.out HB.out))))))
  (case aB => exact HB.out)
  (case aF => exact (fun k_ hk => Kd.fresh' (Kd.R_lt (by exact HO432.out)) k_ hk))
  (case aO => exact (by exact Kd.R_mono HO436.out (fun _ hk => hk.2)))
  (case aS => exact (below_size HB.out))
  (case aL => have := LMc67.out; have hlx_ := (show ((l0.take ((wrap64 ((wrap64 (a1 + 36)) + x9_2)) : Int).toNat).drop ((ji63) : Int).toNat).length = ((wrap64 ((wrap64 (a1 + 36)) + x9_2)).toNat - (ji63).toNat) from (by rw [List.length_drop, List.length_take]; have h_ : ((wrap64 ((wrap64 (a1 + 36)) + x9_2)) : Int) ≤ (l0.length : Int) := of_decide_eq_true (by (with_reducible assumption)); omega)); omega)
  intro v439 w84 ho hb hg hat
  rw [← Ny438.out] at ho
  have n0_ := Aside0.mk (blk_grown (g := gb399) (o := .cells #[.int .i64 0, .slice none 0 0] 35 (0, 0)) (by exact BK399.out) hg (Kd.R_ne HO436.out BK399.out (by decide)))
  have n1_ := Aside0.mk (blk_grown (g := gb400) (o := .cells #[.int .i64 0, .slice none 0 0] 35 (0, 0)) (by exact BK400.out) hg (Kd.R_ne HO436.out BK400.out (by decide)))
  have n2_ := Aside0.mk (Kd.R_after (ok := (fun _ => True)) (by exact HO432.out) hg hat)
  have n3_ := Aside0.mk (blk_grown (g := gb433) (o := .cells #[.int .i64 (wrap64 (rd l0 (ji43))), .slice Ao76 y430.length co76] 35 (0, 0)) (by exact BK433.out) hg (Kd.R_ne HO436.out BK433.out (by decide)))
  have n4_ := Aside0.mk (hb)
  have n5_ := Aside0.mk (ho)
  clear BK399
  clear BK400
  clear HO432
  clear BK433
  clear HB
  clear HO436
  have BK399 := n0_
  have BK400 := n1_
  have HO432 := n2_
  have BK433 := n3_
  have HB := n4_
  have HO440 := n5_
  clear n0_ n1_ n2_ n3_ n4_ n5_
  clear ho hb hg hat
  refine hK.out _ _ ⟨(blk_cell BK433.out 0).trans rfl, (blk_cell BK433.out 1).trans rfl⟩ (fun hHeld => ?_)
  clear hK K
  refine norm_ (a' := ?_) ?_ ?_
  rotate_left
  · show Act.put _ (some 107) _ = _
    simp only [Act.put, sa_, sz_, ss_, i64_w, i32_w]
    rfl
  refine one_ (i := 17) (N := none) (bl 21 262143) rfl rfl (one_of HT_.out (by kernel_rfl)) (by decide) (fun K hK => ?_)
  have hs85 : w84.cell? ⟨gb399, 0, none⟩ = some (.int .i64 0) := (blk_cell BK399.out 0).trans rfl
  have hfs85 := blk_frozen BK399.out 0
  have hns85_1 := NB400_399.out
  have hns85_2 := NB433_399.out
  have hms85_1 := NB399_400.out
  have hms85_2 := NB399_433.out
  have hs86 : w84.cell? ⟨gb399, 1, none⟩ = some (.slice none 0 0) := (blk_cell BK399.out 1).trans rfl
  have hfs86 := blk_frozen BK399.out 1
  have hns86_1 := NB400_399.out
  have hns86_2 := NB433_399.out
  have hms86_1 := NB399_400.out
  have hms86_2 := NB399_433.out
  refine skip_ (w1 := ?_) (by rfl) rfl ?_ ?_
  rotate_left
  · go_simp
    rfl
  refine hK.out _ _ ⟨((cell_far (p := ⟨gb399, _, none⟩) NB433_399.out _).trans (((cell_far (p := ⟨gb399, _, none⟩) NB433_399.out _).trans (hHeld.1)))), ((cell_far (p := ⟨gb399, _, none⟩) NB433_399.out _).trans (((cell_far (p := ⟨gb399, _, none⟩) NB433_399.out _).trans (hHeld.2))))⟩ (fun hHeld => ?_)
  clear hK K
  refine pure_ (i := 18) (N := some 5) (v := ?_) (a' := ?_) (bl 21 524287) rfl rfl (any_of HT_.out (by kernel_rfl)) (fun _ _ _ h => h) (Or.inl ⟨by rfl, ?_⟩) ?_ ?_
  rotate_left
  · intro w'; go_simp; with_reducible rfl
  rotate_left
  · simp only [Act.put, sa_, sz_, ss_, i64_w, i32_w]; rfl
  refine pure_ (i := 19) (N := some 6) (v := ?_) (a' := ?_) (bl 21 1048575) rfl rfl (any_of HT_.out (by kernel_rfl)) (fun _ _ _ h => h) (Or.inl ⟨by rfl, ?_⟩) ?_ ?_
  rotate_left
  · intro w'; go_simp; with_reducible rfl
  rotate_left
  · simp only [Act.put, sa_, sz_, ss_, i64_w, i32_w]; rfl
  refine pure_ (i := 20) (N := some 7) (v := ?_) (a' := ?_) (bl 21 2097151) rfl rfl (any_of HT_.out (by kernel_rfl)) (fun _ _ _ h => h) (Or.inl ⟨by rfl, ?_⟩) ?_ ?_
  rotate_left
  · intro w'; go_simp; with_reducible rfl
  rotate_left
  · simp only [Act.put, sa_, sz_, ss_, i64_w, i32_w]; rfl
  refine done_ (done_of HT_.out (by kernel_rfl)) ?_
  try go_wp2
  refine bodyPost_ret (results_list (rs := [.cell 4 35, .tmp 5, .tmp 6, .tmp 7]) rfl (by simp) (.cell gb399 35 #[.int .i64 (wrap64 (rd l0 (ji43))), .slice Ao76 y430.length co76] (0, 0) _ rfl (by refine blk_put (cs := #[.int .i64 (wrap64 (rd l0 (ji43))), .slice none 0 0]) ?_ 1 _ rfl; refine blk_put (cs := #[.int .i64 0, .slice none 0 0]) ?_ 0 _ rfl; exact BK399.out) Try.underlying35 rfl (by kernel_rfl) (.tmp (.tmp (.tmp .nil))))) rfl ?_
  exact ⟨_, _, by (rfl), by exact Kd.R_mono (Kd.R_far (p := ⟨gb399, 1, none⟩) (Kd.R_far (p := ⟨gb399, 0, none⟩) (Kd.R_types HO432.out BK399.out (by decide)) (fun _ hk => hk.2) (.int .i64 (wrap64 (rd l0 (ji43))))) (fun _ hk => hk.2) (.slice Ao76 y430.length co76)) (fun _ hk => hk.1.2), by exact Kd.R_mono (Kd.R_far (p := ⟨gb399, 1, none⟩) (Kd.R_far (p := ⟨gb399, 0, none⟩) (Kd.R_types HO440.out BK399.out (by decide)) (fun _ hk => hk.2) (.int .i64 (wrap64 (rd l0 (ji43))))) (fun _ hk => hk.2) (.slice Ao76 y430.length co76)) (fun _ hk => hk.1), by repeat (with_reducible first | exact HB.out | refine below_set ?_ GE399.out)⟩
end Go.Proofs.Ytogjnipojakfjaa.PJd
