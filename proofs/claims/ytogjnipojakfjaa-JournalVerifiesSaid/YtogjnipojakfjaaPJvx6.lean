-- SLIM: a printed text of which the unused ways are cut off
-- PRINTED by print.py (a twelfth state) out of the translation. Not trusted: Lean checks it.
import Derived.Test.YtogjnipojakfjaaPJvx0
namespace Go.Proofs.Ytogjnipojakfjaa.PJv
open Go.RowKit Go.Proofs.YtogjnipojakfjaaW.PrintWords Go.Proofs.YtogjnipojakfjaaW.PrintLast Go.Proofs.YtogjnipojakfjaaW.PrintMore
attribute [local go_sem] max2_int min2_int max_two min_two max_three min_three max_four min_four   -- for this text's walks alone
set_option linter.unusedVariables false
set_option linter.unusedSimpArgs false

/-! ### notaryref46_Read: function 43 -/
mutual
def notaryref46_Read.j0 : Nat → List Int → Int → Bool → Int → Option (Int × List Int × List Int × Int × Int)
  | 0, _, _, _, _ => none
  | k + 1, x0, x1, x20, x168000 => if x20 = true then (some (x168000, ([] : List Int), ([] : List Int), 0, 13)) else (if (wrap64 ((x0.length : Int) - x1)) < 4 then (some (x168000, ([] : List Int), ([] : List Int), 0, 1)) else (notaryref46_Read.l0 k x0 x1 0 0 x168000))
def notaryref46_Read.l0 : Nat → List Int → Int → Int → Int → Int → Option (Int × List Int × List Int × Int × Int)
  | 0, _, _, _, _, _ => none
  | k + 1, x0, x1, x9, x10, x168000 => if x10 < 4 then (if 0 ≤ (wrap64 (x1 + x10)) then (if (wrap64 (x1 + x10)) < (x0.length : Int) then (notaryref46_Read.l0 k x0 x1 (wrap64 ((wrap64 (x9 * 256)) + (wrap64 (rd x0 (wrap64 (x1 + x10)))))) (wrap64 (x10 + 1)) x168000) else (none)) else (none)) else (if x9 = 0 then (some (x168000, ([] : List Int), ([] : List Int), 0, 2)) else (if x9 > 1025 then (some (x168000, ([] : List Int), ([] : List Int), 0, 3)) else (if (wrap64 ((x0.length : Int) - x1)) < (wrap64 ((wrap64 (4 + x9)) + 32)) then (some (x168000, ([] : List Int), ([] : List Int), 0, 1)) else (if 0 ≤ (wrap64 (x1 + 4)) then (if (wrap64 (x1 + 4)) < (x0.length : Int) then (if (rd x0 (wrap64 (x1 + 4))) < 1 then (some (x168000, ([] : List Int), ([] : List Int), 0, 23)) else (if (rd x0 (wrap64 (x1 + 4))) > 3 then (some (x168000, ([] : List Int), ([] : List Int), 0, 23)) else ((some (([] : List Int) : List Int)).bind fun y193 => (if 0 ≤ (wrap64 (x1 + 5)) then (if (wrap64 (x1 + 5)) ≤ (wrap64 ((wrap64 (x1 + 4)) + x9)) then (if (wrap64 ((wrap64 (x1 + 4)) + x9)) ≤ (x0.length : Int) then (if y193.length + ((x0.take ((wrap64 ((wrap64 (x1 + 4)) + x9)) : Int).toNat).drop ((wrap64 (x1 + 5)) : Int).toNat).length < 140737488355328 then ((some (([] : List Int) : List Int)).bind fun y201 => (if 0 ≤ (wrap64 ((wrap64 (x1 + 4)) + x9)) then (if (wrap64 ((wrap64 (x1 + 4)) + x9)) ≤ (wrap64 ((wrap64 (x1 + 36)) + x9)) then (if (wrap64 ((wrap64 (x1 + 36)) + x9)) ≤ (x0.length : Int) then (if y201.length + ((x0.take ((wrap64 ((wrap64 (x1 + 36)) + x9)) : Int).toNat).drop ((wrap64 ((wrap64 (x1 + 4)) + x9)) : Int).toNat).length < 140737488355328 then (some (wrap64 (rd x0 (wrap64 (x1 + 4))), (y193 ++ ((x0.take ((wrap64 ((wrap64 (x1 + 4)) + x9)) : Int).toNat).drop ((wrap64 (x1 + 5)) : Int).toNat)), (y201 ++ ((x0.take ((wrap64 ((wrap64 (x1 + 36)) + x9)) : Int).toNat).drop ((wrap64 ((wrap64 (x1 + 4)) + x9)) : Int).toNat)), wrap64 ((wrap64 (x1 + 36)) + x9), 0)) else (none)) else (none)) else (none)) else (none))) else (none)) else (none)) else (none)) else (none))))) else (none)) else (none)))))
end
def notaryref46_Read.f (k : Nat) (l0 : List Int) (a1 : Int) : Option (Int × List Int × List Int × Int × Int) := if a1 < 0 then (notaryref46_Read.j0 k l0 a1 true 0) else (notaryref46_Read.j0 k l0 a1 (decide (a1 > (l0.length : Int))) 0)
def notaryref46_Read.T19 : Bool × List (List Nat × List Nat) := (true, [([], []), ([], []), ([1], [1]), ([0, 2], [0, 2]), ([3], [3]), ([4], [4]), ([], []), ([], []), ([], []), ([8], [8]), ([], []), ([10], [10]), ([], []), ([11, 12], [11, 12]), ([7, 9, 13], [7, 9, 13]), ([6, 14], [6, 14]), ([5, 15], [5, 15]), ([], []), ([17, 16, 15, 0, 1, 2, 3, 4, 5, 6, 7, 8, 9, 10, 11, 12, 13, 14, 15, 16, 17], [16, 17])])
def notaryref46_Read.B19 : List Nat := [0, 0, 2, 7, 15, 31, 0, 0, 0, 256, 0, 1024, 0, 7168, 16256, 32704, 65535, 0, 262143]
theorem notaryref46_Read.tab19 : rtab .any (opsOf Try.f43 19) = notaryref46_Read.T19 := by kernel_rfl
theorem notaryref46_Read.bits19 : waitsOk notaryref46_Read.T19.2 notaryref46_Read.B19 = true := by kernel_rfl
def notaryref46_Read.T20 : Bool × List (List Nat × List Nat) := (true, [([], []), ([], []), ([], []), ([], []), ([3], [3]), ([], []), ([4, 5], [4, 5]), ([], []), ([7], [7]), ([], []), ([8, 9], [8, 9]), ([2, 6, 10], [2, 6, 10]), ([1, 11], [1, 11]), ([], []), ([13], [13]), ([], []), ([14, 15], [14, 15]), ([0, 12, 0], [0]), ([12, 17, 0, 1, 2, 3, 4, 5, 6, 7, 8, 9, 10, 11, 12, 17], [12]), ([16, 18, 0, 1, 2, 3, 4, 5, 6, 7, 8, 9, 10, 11, 12, 13, 14, 15, 16, 17, 18], [16]), ([19, 0, 1, 2, 3, 4, 5, 6, 7, 8, 9, 10, 11, 12, 13, 14, 15, 16, 17, 18, 19], [])])
def notaryref46_Read.B20 : List Nat := [0, 0, 0, 0, 8, 0, 56, 0, 128, 0, 896, 2044, 4094, 0, 8192, 0, 57344, 8191, 139263, 524287, 1048575]
theorem notaryref46_Read.tab20 : rtab .any (opsOf Try.f43 20) = notaryref46_Read.T20 := by kernel_rfl
theorem notaryref46_Read.bits20 : waitsOk notaryref46_Read.T20.2 notaryref46_Read.B20 = true := by kernel_rfl
set_option maxHeartbeats 8000000 in
set_option maxRecDepth 100000 in
theorem notaryref46_Read.calls (k : Nat) (A0 : Option Addr) (c0 : Nat) (l0 : List Int) (a1 : Int) (r1 : Int) (r2 : List Int) (r3 : List Int) (r4 : Int) (r5 : Int) (w : World) (hr0 : Kd.C (Kd.int .u8) w A0 l0.length l0) (hc0 : l0.length ≤ c0) (h : notaryref46_Read.f k l0 a1 = some (r1, r2, r3, r4, r5)) :
    Calls Try.prog 43 #[.slice A0 l0.length c0, .int .i64 a1] w fun e w' => ∃ v1_ v2_ : Value, e = .returned (.tuple #[.agg #[.int .i64 r1, v1_], v2_, .int .i64 r4, .int .i64 r5]) ∧ Kd.R (Kd.int .u8) 5 w' w.heap.size (fun k_ => some k_ ≠ (v2_ : Value).ownBlock) v1_ r2 ∧ Kd.R (Kd.int .u8) 5 w' w.heap.size (fun k_ => some k_ ≠ (v1_ : Value).ownBlock) v2_ r3 ∧ Below w.heap.size w w' := by
  have hu35 := Try.underlying35
  have HR0 := Aside0.mk hr0
  have HC0 := Aside0.mk hc0
  clear hr0 hc0
  have HB := Aside0.mk (Below.refl w.heap.size w)
  have H : (if a1 < 0 then (notaryref46_Read.j0 k l0 a1 true 0) else (notaryref46_Read.j0 k l0 a1 (decide (a1 > (l0.length : Int))) 0)) = some (r1, r2, r3, r4, r5) := h
  clear h
  have HC3 := Aside0.mk H
  clear H
  go_enter Try.func43, Try.ntmps43
  go_upto_region 2 with (first | ((with_reducible refine gate_dst (N := 4) rfl ?_); (try (refine gate_guard (by rfl) ?_; dsimp only)); refine box_event ?hg (N := 4) ?hd (cs := #[.int .i64 0, .slice none 0 0]) (t := 35) ?hr ?_; (case hd => rfl); (case hg => rfl); (case hr => (go_simp; done)); intro gb166 hg w4 hbox hb; have n0_ := Aside0.mk (below_step HB.out hb); have n1_ := Aside0.mk (hbox); have n2_ := Aside0.mk ((by rw [hg]; exact (below_size HB.out) : w.heap.size ≤ gb166)); have n3_ := Aside0.mk ((by rw [hg]; exact (below_size HB.out) : w.heap.size ≤ gb166)); clear HB; have HB := n0_; have BK166 := n1_; have GW166 := n2_; have GE166 := n3_; clear n0_ n1_ n2_ n3_; clear hb hbox hg) | ((with_reducible refine gate_dst (N := 8) rfl ?_); (try (refine gate_guard (by rfl) ?_; dsimp only)); refine box_event ?hg (N := 8) ?hd (cs := #[.int .i64 0, .slice none 0 0]) (t := 35) ?hr ?_; (case hd => rfl); (case hg => rfl); (case hr => (go_simp; done)); intro gb167 hg w5 hbox hb; have n0_ := Aside0.mk (blk_below (g := gb166) (o := .cells #[.int .i64 0, .slice none 0 0] 35 (0, 0)) (by exact BK166.out) hb); have n1_ := Aside0.mk (below_step HB.out hb); have n2_ := Aside0.mk (hbox); have n3_ := Aside0.mk ((by rw [hg]; exact (below_size HB.out) : w.heap.size ≤ gb167)); have n4_ := Aside0.mk ((by rw [hg]; exact (below_size HB.out) : w.heap.size ≤ gb167)); have n5_ := Aside0.mk ((by rw [hg]; exact Nat.ne_of_lt (blk_lt (g := gb166) (o := .cells #[.int .i64 0, .slice none 0 0] 35 (0, 0)) (by exact BK166.out)) : gb166 ≠ gb167)); have n6_ := Aside0.mk ((by rw [hg]; exact Nat.ne_of_gt (blk_lt (g := gb166) (o := .cells #[.int .i64 0, .slice none 0 0] 35 (0, 0)) (by exact BK166.out)) : gb167 ≠ gb166)); clear BK166; clear HB; have BK166 := n0_; have HB := n1_; have BK167 := n2_; have GW167 := n3_; have GE167 := n4_; have NB166_167 := n5_; have NB167_166 := n6_; clear n0_ n1_ n2_ n3_ n4_ n5_ n6_; clear hb hbox hg; have hnb6 := NB167_166.out; have hnc6 := NB166_167.out; have hcz7_0 : w5.cell? ⟨gb167, 0, none⟩ = some (.int .i64 0) := (blk_cell BK167.out 0).trans rfl; have hcz7_1 : w5.cell? ⟨gb167, 1, none⟩ = some (.slice none 0 0) := (blk_cell BK167.out 1).trans rfl; have hfz7_0 := blk_frozen BK167.out 0; have hfz7_1 := blk_frozen BK167.out 1))
  (skip)
  go_cut [20] (fun v20 wc => ∃ (kq : Nat) (x20_2 : Bool), v20 = .bool x20_2 ∧ Aside0 (notaryref46_Read.j0 kq l0 a1 x20_2 0 = some (r1, r2, r3, r4, r5)) ∧ Aside0 (kq ≤ k) ∧ Aside0 (wc.heap[gb166]? = some (.cells #[.int .i64 0, (.slice none 0 0)] 35 (0, 0))) ∧ Aside0 (wc.heap[gb167]? = some (.cells #[.int .i64 0, (.slice none 0 0)] 35 (0, 0))) ∧ Aside0 (Below w.heap.size w wc))
  case first =>
    have H := HC3.out
    clear HC3
    by_cases c8 : a1 < 0
    · rw [if_pos c8] at H
      have c8b0 : decide (a1 < 0) = true := decide_eq_true c8
      clear c8
      (skip)
      have H' := Aside0.mk H
      clear H
      go_wp2
      go_meet
      case rel => exact ⟨_, (true), (by (rfl)), H', ⟨by (omega)⟩, ⟨by refine blk_far ?_ NB166_167.out _; refine blk_far ?_ NB166_167.out _; exact BK166.out⟩, ⟨by refine blk_put (cs := #[.int .i64 0, .slice none 0 0]) ?_ 1 _ rfl; refine blk_put (cs := #[.int .i64 0, .slice none 0 0]) ?_ 0 _ rfl; exact BK167.out⟩, ⟨by repeat (with_reducible first | exact HB.out | refine below_set ?_ GE167.out)⟩⟩
    rw [if_neg c8] at H
    have c8b0 : decide (a1 < 0) = false := decide_eq_false c8
    clear c8
    (skip)
    have H' := Aside0.mk H
    clear H
    go_wp2
    go_meet
    case rel => exact ⟨_, (decide (a1 > (l0.length : Int))), (by (rfl)), H', ⟨by (omega)⟩, ⟨by refine blk_far ?_ NB166_167.out _; refine blk_far ?_ NB166_167.out _; exact BK166.out⟩, ⟨by refine blk_put (cs := #[.int .i64 0, .slice none 0 0]) ?_ 1 _ rfl; refine blk_put (cs := #[.int .i64 0, .slice none 0 0]) ?_ 0 _ rfl; exact BK167.out⟩, ⟨by repeat (with_reducible first | exact HB.out | refine below_set ?_ GE167.out)⟩⟩
  clear HC3
  try clear hcz7_0
  try clear hcz7_1
  try clear hfz7_0
  try clear hfz7_1
  obtain ⟨kq, x20_2, rfl, HA, HJ2, BK166, BK167, HB⟩ := hcut
  rcases kq with _ | kj2
  · exact absurd HA.out (by simp [notaryref46_Read.j0])
  have H := HA.out
  clear HA
  simp only [notaryref46_Read.j0] at H
  by_cases c9 : x20_2 = true
  · subst c9
    have H1 : (some (0, ([] : List Int), ([] : List Int), 0, 13)) = some (r1, r2, r3, r4, r5) := by rw [if_pos rfl] at H; exact H
    clear H
    have H := H1
    clear H1
    obtain ⟨y168, hy168⟩ : ∃ y_ : List Int, y_ = ([] : List Int) := ⟨_, rfl⟩
    replace H : (some (0, ([] : List Int), y168, 0, 13)) = some (r1, r2, r3, r4, r5) := by (rw [hy168]; with_reducible exact H)
    have Ny168 := Aside0.mk hy168
    clear hy168
    simp only [Option.some.injEq, Prod.mk.injEq] at H
    obtain ⟨rfl, rfl, rfl, rfl, rfl⟩ := H
    have hnb10 := NB167_166.out
    have hnc10 := NB166_167.out
    have hcz11_0 : wc.cell? ⟨gb167, 0, none⟩ = some (.int .i64 0) := (blk_cell BK167.out 0).trans rfl
    have hcz11_1 : wc.cell? ⟨gb167, 1, none⟩ = some (.slice none 0 0) := (blk_cell BK167.out 1).trans rfl
    have hfz11_0 := blk_frozen BK167.out 0
    have hfz11_1 := blk_frozen BK167.out 1
    go_wp2_with ((((with_reducible refine gate_dst (N := 22) rfl ?_); (try (refine gate_guard (by rfl) ?_; dsimp only)); refine Kd.R_lit (Kd.int .u8) _ 5 ?hg (N := 22) ?hd (xs := ([] : List Int)) (inner := []) (ok := fun _ => True) (okp := fun _ => True) ?hr ?hp (fun _ hk => hk) trivial (Below.refl _ _) (Nat.le_refl _) (by simp) ?_; (case hd => rfl); (case hg => rfl); (case hr => (go_simp; done)); (case hp => exact (Reps.none _ _)); intro v169 w12 ho13 hb hg_ hnew_; clear hg_ hnew_; (rw [← Ny168.out] at ho13); have n0_ := Aside0.mk (Kd.R_lower ho13 (below_size HB.out)); have n1_ := Aside0.mk (blk_below (g := gb166) (o := .cells #[.int .i64 0, .slice none 0 0] 35 (0, 0)) (by exact BK166.out) hb); have n2_ := Aside0.mk (blk_below (g := gb167) (o := .cells #[.int .i64 0, .slice none 0 0] 35 (0, 0)) (by exact BK167.out) hb); have n3_ := Aside0.mk (below_step HB.out hb); clear BK166; clear BK167; clear HB; have HO170 := n0_; have BK166 := n1_; have BK167 := n2_; have HB := n3_; clear n0_ n1_ n2_ n3_; clear hb ho13; have hcz14_0 : w12.cell? ⟨gb166, 0, none⟩ = some (.int .i64 0) := (blk_cell BK166.out 0).trans rfl; have hcz14_1 : w12.cell? ⟨gb166, 1, none⟩ = some (.slice none 0 0) := (blk_cell BK166.out 1).trans rfl; have hfz14_0 := blk_frozen BK166.out 0; have hfz14_1 := blk_frozen BK166.out 1)))
    refine bodyPost_ret (results_list (rs := [.cell 4 35, .tmp 5, .tmp 6, .tmp 7]) rfl (by simp) (.cell gb166 35 #[.int .i64 0, .slice none 0 0] (0, 0) _ rfl (by refine blk_put (cs := #[.int .i64 0, .slice none 0 0]) ?_ 1 _ rfl; refine blk_put (cs := #[.int .i64 0, .slice none 0 0]) ?_ 0 _ rfl; exact BK166.out) Try.underlying35 rfl (by kernel_rfl) (.tmp (.tmp (.tmp .nil))))) rfl ?_
    exact ⟨_, _, by (rfl), by (exact Kd.R_nil _ _ _ _ _), by exact Kd.R_mono (Kd.R_far (p := ⟨gb166, 1, none⟩) (Kd.R_far (p := ⟨gb166, 0, none⟩) (Kd.R_types HO170.out BK166.out (by decide)) (fun _ hk => hk.2) (.int .i64 0)) (fun _ hk => hk.2) (.slice none 0 0)) (fun _ hk => (by simp [Value.ownBlock])), by repeat (with_reducible first | exact HB.out | refine below_set ?_ GE166.out)⟩
  replace c9 := Bool.eq_false_iff.mpr c9
  subst c9
  have H1 : (if (wrap64 ((l0.length : Int) - a1)) < 4 then (some (0, ([] : List Int), ([] : List Int), 0, 1)) else (notaryref46_Read.l0 kj2 l0 a1 0 0 0)) = some (r1, r2, r3, r4, r5) := by rw [if_neg (show ¬ (false = true) by decide)] at H; exact H
  clear H
  have H := H1
  clear H1
  by_cases c15 : (wrap64 ((l0.length : Int) - a1)) < 4
  · rw [if_pos c15] at H
    have c15b0 : decide ((wrap64 ((l0.length : Int) - a1)) < 4) = true := decide_eq_true c15
    clear c15
    obtain ⟨y171, hy171⟩ : ∃ y_ : List Int, y_ = ([] : List Int) := ⟨_, rfl⟩
    replace H : (some (0, ([] : List Int), y171, 0, 1)) = some (r1, r2, r3, r4, r5) := by (rw [hy171]; with_reducible exact H)
    have Ny171 := Aside0.mk hy171
    clear hy171
    simp only [Option.some.injEq, Prod.mk.injEq] at H
    obtain ⟨rfl, rfl, rfl, rfl, rfl⟩ := H
    have hnb16 := NB167_166.out
    have hnc16 := NB166_167.out
    have hcz17_0 : wc.cell? ⟨gb167, 0, none⟩ = some (.int .i64 0) := (blk_cell BK167.out 0).trans rfl
    have hcz17_1 : wc.cell? ⟨gb167, 1, none⟩ = some (.slice none 0 0) := (blk_cell BK167.out 1).trans rfl
    have hfz17_0 := blk_frozen BK167.out 0
    have hfz17_1 := blk_frozen BK167.out 1
    go_wp2_with ((((with_reducible refine gate_dst (N := 29) rfl ?_); (try (refine gate_guard (by rfl) ?_; dsimp only)); refine Kd.R_lit (Kd.int .u8) _ 5 ?hg (N := 29) ?hd (xs := ([] : List Int)) (inner := []) (ok := fun _ => True) (okp := fun _ => True) ?hr ?hp (fun _ hk => hk) trivial (Below.refl _ _) (Nat.le_refl _) (by simp) ?_; (case hd => rfl); (case hg => rfl); (case hr => (go_simp; done)); (case hp => exact (Reps.none _ _)); intro v172 w18 ho19 hb hg_ hnew_; clear hg_ hnew_; (rw [← Ny171.out] at ho19); have n0_ := Aside0.mk (Kd.R_lower ho19 (below_size HB.out)); have n1_ := Aside0.mk (blk_below (g := gb166) (o := .cells #[.int .i64 0, .slice none 0 0] 35 (0, 0)) (by exact BK166.out) hb); have n2_ := Aside0.mk (blk_below (g := gb167) (o := .cells #[.int .i64 0, .slice none 0 0] 35 (0, 0)) (by exact BK167.out) hb); have n3_ := Aside0.mk (below_step HB.out hb); clear BK166; clear BK167; clear HB; have HO173 := n0_; have BK166 := n1_; have BK167 := n2_; have HB := n3_; clear n0_ n1_ n2_ n3_; clear hb ho19; have hcz20_0 : w18.cell? ⟨gb166, 0, none⟩ = some (.int .i64 0) := (blk_cell BK166.out 0).trans rfl; have hcz20_1 : w18.cell? ⟨gb166, 1, none⟩ = some (.slice none 0 0) := (blk_cell BK166.out 1).trans rfl; have hfz20_0 := blk_frozen BK166.out 0; have hfz20_1 := blk_frozen BK166.out 1)))
    refine bodyPost_ret (results_list (rs := [.cell 4 35, .tmp 5, .tmp 6, .tmp 7]) rfl (by simp) (.cell gb166 35 #[.int .i64 0, .slice none 0 0] (0, 0) _ rfl (by refine blk_put (cs := #[.int .i64 0, .slice none 0 0]) ?_ 1 _ rfl; refine blk_put (cs := #[.int .i64 0, .slice none 0 0]) ?_ 0 _ rfl; exact BK166.out) Try.underlying35 rfl (by kernel_rfl) (.tmp (.tmp (.tmp .nil))))) rfl ?_
    exact ⟨_, _, by (rfl), by (exact Kd.R_nil _ _ _ _ _), by exact Kd.R_mono (Kd.R_far (p := ⟨gb166, 1, none⟩) (Kd.R_far (p := ⟨gb166, 0, none⟩) (Kd.R_types HO173.out BK166.out (by decide)) (fun _ hk => hk.2) (.int .i64 0)) (fun _ hk => hk.2) (.slice none 0 0)) (fun _ hk => (by simp [Value.ownBlock])), by repeat (with_reducible first | exact HB.out | refine below_set ?_ GE166.out)⟩
  rw [if_neg c15] at H
  have c15b0 : decide ((wrap64 ((l0.length : Int) - a1)) < 4) = false := decide_eq_false c15
  clear c15
  have H' := Aside0.mk H
  clear H
  go_wp2
  go_loopg [9, 10] kj2 (fun kq v9 v10 w' => ∃ (x9_2 : Int) (x10_2 : Int), v9 = .int .i64 x9_2 ∧ v10 = .int .i64 x10_2 ∧ Aside0 (notaryref46_Read.l0 kq l0 a1 x9_2 x10_2 0 = some (r1, r2, r3, r4, r5)) ∧ Aside0 (kq ≤ kj2) ∧ Aside0 (w'.heap[gb166]? = some (.cells #[.int .i64 0, (.slice none 0 0)] 35 (0, 0))) ∧ Aside0 (w'.heap[gb167]? = some (.cells #[.int .i64 0, (.slice none 0 0)] 35 (0, 0))) ∧ Aside0 (Below w.heap.size w w'))
  case atStart => exact ⟨(0), (0), (by (rfl)), (by (rfl)), H', ⟨Nat.le_refl _⟩, ⟨by exact BK166.out⟩, ⟨by exact BK167.out⟩, ⟨HB.out⟩⟩
  clear H'
  try clear c15b0
  obtain ⟨x9_2, x10_2, rfl, rfl, HA, HK2, BK166, BK167, HB⟩ := hrel
  rcases gk with _ | k2
  · exact absurd HA.out (by simp [notaryref46_Read.l0])
  have H := HA.out
  clear HA
  simp only [notaryref46_Read.l0] at H
  by_cases c21 : x10_2 < 4
  · rw [if_pos c21] at H
    have c21b0 : decide (x10_2 < 4) = true := decide_eq_true c21
    clear c21
    obtain ⟨ji22, hji22⟩ : ∃ j_ : Int, (wrap64 (a1 + x10_2)) = j_ := ⟨_, rfl⟩
    replace H : (if 0 ≤ (ji22) then (if (ji22) < (l0.length : Int) then (notaryref46_Read.l0 k2 l0 a1 (wrap64 ((wrap64 (x9_2 * 256)) + (wrap64 (rd l0 (ji22))))) (wrap64 (x10_2 + 1)) 0) else (none)) else (none)) = some (r1, r2, r3, r4, r5) := by (rw [hji22] at H; exact H)
    have hji22w : (IntKind.i64.wrap (a1 + x10_2)) = ji22 := (i64_w _).trans hji22
    by_cases c23 : 0 ≤ (ji22)
    rotate_left
    · rw [if_neg c23] at H
      exact absurd H (by simp)
    rw [if_pos c23] at H
    have c23b0 : decide (0 ≤ (ji22)) = true := decide_eq_true c23
    clear c23
    by_cases c24 : (ji22) < (l0.length : Int)
    rotate_left
    · rw [if_neg c24] at H
      exact absurd H (by simp)
    rw [if_pos c24] at H
    have c24b0 : decide ((ji22) < (l0.length : Int)) = true := decide_eq_true c24
    clear c24
    have H' := Aside0.mk H
    clear H
    have p174 : 0 ≤ ((ji22) : Int) := of_decide_eq_true (by (with_reducible assumption))
    have q174 : (ji22) < (l0.length : Int) := of_decide_eq_true (by (with_reducible assumption))
    obtain ⟨ad174, e174, hx174_0⟩ := Kd.at_int HR0.out (ji22) p174 q174
    cases e174
    replace hx174_0 := pw_cell_below HB.out hx174_0
    replace p174 := eq_true p174
    replace q174 := eq_true q174
    go_wp2
    go_roundg k2
    case measure => have := HJ2.out; have := HK2.out; omega
    case rel => exact ⟨(wrap64 ((wrap64 (x9_2 * 256)) + (wrap64 (rd l0 (ji22))))), (wrap64 (x10_2 + 1)), (by (rfl)), (by (rfl)), H', ⟨by have := HJ2.out; have := HK2.out; omega⟩, ⟨by exact BK166.out⟩, ⟨by exact BK167.out⟩, ⟨HB.out⟩⟩
  rw [if_neg c21] at H
  have c21b0 : decide (x10_2 < 4) = false := decide_eq_false c21
  clear c21
  by_cases c25 : x9_2 = 0
  · rw [if_pos c25] at H
    have c25b0 : (x9_2 == 0) = true := beq_iff_eq.mpr c25
    have c25b1 : (x9_2 != 0) = false := bne_eq_false_iff_eq.mpr c25
    clear c25
    obtain ⟨y175, hy175⟩ : ∃ y_ : List Int, y_ = ([] : List Int) := ⟨_, rfl⟩
    replace H : (some (0, ([] : List Int), y175, 0, 2)) = some (r1, r2, r3, r4, r5) := by (rw [hy175]; with_reducible exact H)
    have Ny175 := Aside0.mk hy175
    clear hy175
    simp only [Option.some.injEq, Prod.mk.injEq] at H
    obtain ⟨rfl, rfl, rfl, rfl, rfl⟩ := H
    have hnb26 := NB167_166.out
    have hnc26 := NB166_167.out
    have hcz27_0 : wr.cell? ⟨gb167, 0, none⟩ = some (.int .i64 0) := (blk_cell BK167.out 0).trans rfl
    have hcz27_1 : wr.cell? ⟨gb167, 1, none⟩ = some (.slice none 0 0) := (blk_cell BK167.out 1).trans rfl
    have hfz27_0 := blk_frozen BK167.out 0
    have hfz27_1 := blk_frozen BK167.out 1
    go_wp2_with ((((with_reducible refine gate_dst (N := 47) rfl ?_); (try (refine gate_guard (by rfl) ?_; dsimp only)); refine Kd.R_lit (Kd.int .u8) _ 5 ?hg (N := 47) ?hd (xs := ([] : List Int)) (inner := []) (ok := fun _ => True) (okp := fun _ => True) ?hr ?hp (fun _ hk => hk) trivial (Below.refl _ _) (Nat.le_refl _) (by simp) ?_; (case hd => rfl); (case hg => rfl); (case hr => (go_simp; done)); (case hp => exact (Reps.none _ _)); intro v176 w28 ho29 hb hg_ hnew_; clear hg_ hnew_; (rw [← Ny175.out] at ho29); have n0_ := Aside0.mk (Kd.R_lower ho29 (below_size HB.out)); have n1_ := Aside0.mk (blk_below (g := gb166) (o := .cells #[.int .i64 0, .slice none 0 0] 35 (0, 0)) (by exact BK166.out) hb); have n2_ := Aside0.mk (blk_below (g := gb167) (o := .cells #[.int .i64 0, .slice none 0 0] 35 (0, 0)) (by exact BK167.out) hb); have n3_ := Aside0.mk (below_step HB.out hb); clear BK166; clear BK167; clear HB; have HO177 := n0_; have BK166 := n1_; have BK167 := n2_; have HB := n3_; clear n0_ n1_ n2_ n3_; clear hb ho29; have hcz30_0 : w28.cell? ⟨gb166, 0, none⟩ = some (.int .i64 0) := (blk_cell BK166.out 0).trans rfl; have hcz30_1 : w28.cell? ⟨gb166, 1, none⟩ = some (.slice none 0 0) := (blk_cell BK166.out 1).trans rfl; have hfz30_0 := blk_frozen BK166.out 0; have hfz30_1 := blk_frozen BK166.out 1)))
    refine bodyPost_ret (results_list (rs := [.cell 4 35, .tmp 5, .tmp 6, .tmp 7]) rfl (by simp) (.cell gb166 35 #[.int .i64 0, .slice none 0 0] (0, 0) _ rfl (by refine blk_put (cs := #[.int .i64 0, .slice none 0 0]) ?_ 1 _ rfl; refine blk_put (cs := #[.int .i64 0, .slice none 0 0]) ?_ 0 _ rfl; exact BK166.out) Try.underlying35 rfl (by kernel_rfl) (.tmp (.tmp (.tmp .nil))))) rfl ?_
    exact ⟨_, _, by (rfl), by (exact Kd.R_nil _ _ _ _ _), by exact Kd.R_mono (Kd.R_far (p := ⟨gb166, 1, none⟩) (Kd.R_far (p := ⟨gb166, 0, none⟩) (Kd.R_types HO177.out BK166.out (by decide)) (fun _ hk => hk.2) (.int .i64 0)) (fun _ hk => hk.2) (.slice none 0 0)) (fun _ hk => (by simp [Value.ownBlock])), by repeat (with_reducible first | exact HB.out | refine below_set ?_ GE166.out)⟩
  rw [if_neg c25] at H
  have c25b0 : (x9_2 == 0) = false := beq_eq_false_iff_ne.mpr c25
  have c25b1 : (x9_2 != 0) = true := bne_iff_ne.mpr c25
  by_cases c31 : x9_2 > 1025
  · rw [if_pos c31] at H
    have c31b0 : decide (1025 < x9_2) = true := decide_eq_true c31
    clear c31
    obtain ⟨y178, hy178⟩ : ∃ y_ : List Int, y_ = ([] : List Int) := ⟨_, rfl⟩
    replace H : (some (0, ([] : List Int), y178, 0, 3)) = some (r1, r2, r3, r4, r5) := by (rw [hy178]; with_reducible exact H)
    have Ny178 := Aside0.mk hy178
    clear hy178
    simp only [Option.some.injEq, Prod.mk.injEq] at H
    obtain ⟨rfl, rfl, rfl, rfl, rfl⟩ := H
    have hnb32 := NB167_166.out
    have hnc32 := NB166_167.out
    have hcz33_0 : wr.cell? ⟨gb167, 0, none⟩ = some (.int .i64 0) := (blk_cell BK167.out 0).trans rfl
    have hcz33_1 : wr.cell? ⟨gb167, 1, none⟩ = some (.slice none 0 0) := (blk_cell BK167.out 1).trans rfl
    have hfz33_0 := blk_frozen BK167.out 0
    have hfz33_1 := blk_frozen BK167.out 1
    go_wp2_with ((((with_reducible refine gate_dst (N := 51) rfl ?_); (try (refine gate_guard (by rfl) ?_; dsimp only)); refine Kd.R_lit (Kd.int .u8) _ 5 ?hg (N := 51) ?hd (xs := ([] : List Int)) (inner := []) (ok := fun _ => True) (okp := fun _ => True) ?hr ?hp (fun _ hk => hk) trivial (Below.refl _ _) (Nat.le_refl _) (by simp) ?_; (case hd => rfl); (case hg => rfl); (case hr => (go_simp; done)); (case hp => exact (Reps.none _ _)); intro v179 w34 ho35 hb hg_ hnew_; clear hg_ hnew_; (rw [← Ny178.out] at ho35); have n0_ := Aside0.mk (Kd.R_lower ho35 (below_size HB.out)); have n1_ := Aside0.mk (blk_below (g := gb166) (o := .cells #[.int .i64 0, .slice none 0 0] 35 (0, 0)) (by exact BK166.out) hb); have n2_ := Aside0.mk (blk_below (g := gb167) (o := .cells #[.int .i64 0, .slice none 0 0] 35 (0, 0)) (by exact BK167.out) hb); have n3_ := Aside0.mk (below_step HB.out hb); clear BK166; clear BK167; clear HB; have HO180 := n0_; have BK166 := n1_; have BK167 := n2_; have HB := n3_; clear n0_ n1_ n2_ n3_; clear hb ho35; have hcz36_0 : w34.cell? ⟨gb166, 0, none⟩ = some (.int .i64 0) := (blk_cell BK166.out 0).trans rfl; have hcz36_1 : w34.cell? ⟨gb166, 1, none⟩ = some (.slice none 0 0) := (blk_cell BK166.out 1).trans rfl; have hfz36_0 := blk_frozen BK166.out 0; have hfz36_1 := blk_frozen BK166.out 1)))
    refine bodyPost_ret (results_list (rs := [.cell 4 35, .tmp 5, .tmp 6, .tmp 7]) rfl (by simp) (.cell gb166 35 #[.int .i64 0, .slice none 0 0] (0, 0) _ rfl (by refine blk_put (cs := #[.int .i64 0, .slice none 0 0]) ?_ 1 _ rfl; refine blk_put (cs := #[.int .i64 0, .slice none 0 0]) ?_ 0 _ rfl; exact BK166.out) Try.underlying35 rfl (by kernel_rfl) (.tmp (.tmp (.tmp .nil))))) rfl ?_
    exact ⟨_, _, by (rfl), by (exact Kd.R_nil _ _ _ _ _), by exact Kd.R_mono (Kd.R_far (p := ⟨gb166, 1, none⟩) (Kd.R_far (p := ⟨gb166, 0, none⟩) (Kd.R_types HO180.out BK166.out (by decide)) (fun _ hk => hk.2) (.int .i64 0)) (fun _ hk => hk.2) (.slice none 0 0)) (fun _ hk => (by simp [Value.ownBlock])), by repeat (with_reducible first | exact HB.out | refine below_set ?_ GE166.out)⟩
  rw [if_neg c31] at H
  have c31b0 : decide (1025 < x9_2) = false := decide_eq_false c31
  clear c31
  by_cases c37 : (wrap64 ((l0.length : Int) - a1)) < (wrap64 ((wrap64 (4 + x9_2)) + 32))
  · rw [if_pos c37] at H
    have c37b0 : decide ((wrap64 ((l0.length : Int) - a1)) < (wrap64 ((wrap64 (4 + x9_2)) + 32))) = true := decide_eq_true c37
    clear c37
    obtain ⟨y181, hy181⟩ : ∃ y_ : List Int, y_ = ([] : List Int) := ⟨_, rfl⟩
    replace H : (some (0, ([] : List Int), y181, 0, 1)) = some (r1, r2, r3, r4, r5) := by (rw [hy181]; with_reducible exact H)
    have Ny181 := Aside0.mk hy181
    clear hy181
    simp only [Option.some.injEq, Prod.mk.injEq] at H
    obtain ⟨rfl, rfl, rfl, rfl, rfl⟩ := H
    have hnb38 := NB167_166.out
    have hnc38 := NB166_167.out
    have hcz39_0 : wr.cell? ⟨gb167, 0, none⟩ = some (.int .i64 0) := (blk_cell BK167.out 0).trans rfl
    have hcz39_1 : wr.cell? ⟨gb167, 1, none⟩ = some (.slice none 0 0) := (blk_cell BK167.out 1).trans rfl
    have hfz39_0 := blk_frozen BK167.out 0
    have hfz39_1 := blk_frozen BK167.out 1
    go_wp2_with ((((with_reducible refine gate_dst (N := 61) rfl ?_); (try (refine gate_guard (by rfl) ?_; dsimp only)); refine Kd.R_lit (Kd.int .u8) _ 5 ?hg (N := 61) ?hd (xs := ([] : List Int)) (inner := []) (ok := fun _ => True) (okp := fun _ => True) ?hr ?hp (fun _ hk => hk) trivial (Below.refl _ _) (Nat.le_refl _) (by simp) ?_; (case hd => rfl); (case hg => rfl); (case hr => (go_simp; done)); (case hp => exact (Reps.none _ _)); intro v182 w40 ho41 hb hg_ hnew_; clear hg_ hnew_; (rw [← Ny181.out] at ho41); have n0_ := Aside0.mk (Kd.R_lower ho41 (below_size HB.out)); have n1_ := Aside0.mk (blk_below (g := gb166) (o := .cells #[.int .i64 0, .slice none 0 0] 35 (0, 0)) (by exact BK166.out) hb); have n2_ := Aside0.mk (blk_below (g := gb167) (o := .cells #[.int .i64 0, .slice none 0 0] 35 (0, 0)) (by exact BK167.out) hb); have n3_ := Aside0.mk (below_step HB.out hb); clear BK166; clear BK167; clear HB; have HO183 := n0_; have BK166 := n1_; have BK167 := n2_; have HB := n3_; clear n0_ n1_ n2_ n3_; clear hb ho41; have hcz42_0 : w40.cell? ⟨gb166, 0, none⟩ = some (.int .i64 0) := (blk_cell BK166.out 0).trans rfl; have hcz42_1 : w40.cell? ⟨gb166, 1, none⟩ = some (.slice none 0 0) := (blk_cell BK166.out 1).trans rfl; have hfz42_0 := blk_frozen BK166.out 0; have hfz42_1 := blk_frozen BK166.out 1)))
    refine bodyPost_ret (results_list (rs := [.cell 4 35, .tmp 5, .tmp 6, .tmp 7]) rfl (by simp) (.cell gb166 35 #[.int .i64 0, .slice none 0 0] (0, 0) _ rfl (by refine blk_put (cs := #[.int .i64 0, .slice none 0 0]) ?_ 1 _ rfl; refine blk_put (cs := #[.int .i64 0, .slice none 0 0]) ?_ 0 _ rfl; exact BK166.out) Try.underlying35 rfl (by kernel_rfl) (.tmp (.tmp (.tmp .nil))))) rfl ?_
    exact ⟨_, _, by (rfl), by (exact Kd.R_nil _ _ _ _ _), by exact Kd.R_mono (Kd.R_far (p := ⟨gb166, 1, none⟩) (Kd.R_far (p := ⟨gb166, 0, none⟩) (Kd.R_types HO183.out BK166.out (by decide)) (fun _ hk => hk.2) (.int .i64 0)) (fun _ hk => hk.2) (.slice none 0 0)) (fun _ hk => (by simp [Value.ownBlock])), by repeat (with_reducible first | exact HB.out | refine below_set ?_ GE166.out)⟩
  rw [if_neg c37] at H
  have c37b0 : decide ((wrap64 ((l0.length : Int) - a1)) < (wrap64 ((wrap64 (4 + x9_2)) + 32))) = false := decide_eq_false c37
  clear c37
  obtain ⟨ji43, hji43⟩ : ∃ j_ : Int, (wrap64 (a1 + 4)) = j_ := ⟨_, rfl⟩
  replace H : (if 0 ≤ (ji43) then (if (ji43) < (l0.length : Int) then (if (rd l0 (ji43)) < 1 then (some (0, ([] : List Int), ([] : List Int), 0, 23)) else (if (rd l0 (ji43)) > 3 then (some (0, ([] : List Int), ([] : List Int), 0, 23)) else ((some (([] : List Int) : List Int)).bind fun y193 => (if 0 ≤ (wrap64 (a1 + 5)) then (if (wrap64 (a1 + 5)) ≤ (wrap64 ((ji43) + x9_2)) then (if (wrap64 ((ji43) + x9_2)) ≤ (l0.length : Int) then (if y193.length + ((l0.take ((wrap64 ((ji43) + x9_2)) : Int).toNat).drop ((wrap64 (a1 + 5)) : Int).toNat).length < 140737488355328 then ((some (([] : List Int) : List Int)).bind fun y201 => (if 0 ≤ (wrap64 ((ji43) + x9_2)) then (if (wrap64 ((ji43) + x9_2)) ≤ (wrap64 ((wrap64 (a1 + 36)) + x9_2)) then (if (wrap64 ((wrap64 (a1 + 36)) + x9_2)) ≤ (l0.length : Int) then (if y201.length + ((l0.take ((wrap64 ((wrap64 (a1 + 36)) + x9_2)) : Int).toNat).drop ((wrap64 ((ji43) + x9_2)) : Int).toNat).length < 140737488355328 then (some (wrap64 (rd l0 (ji43)), (y193 ++ ((l0.take ((wrap64 ((ji43) + x9_2)) : Int).toNat).drop ((wrap64 (a1 + 5)) : Int).toNat)), (y201 ++ ((l0.take ((wrap64 ((wrap64 (a1 + 36)) + x9_2)) : Int).toNat).drop ((wrap64 ((ji43) + x9_2)) : Int).toNat)), wrap64 ((wrap64 (a1 + 36)) + x9_2), 0)) else (none)) else (none)) else (none)) else (none))) else (none)) else (none)) else (none)) else (none))))) else (none)) else (none)) = some (r1, r2, r3, r4, r5) := by (rw [hji43] at H; exact H)
  have hji43w : (IntKind.i64.wrap (a1 + 4)) = ji43 := (i64_w _).trans hji43
  by_cases c44 : 0 ≤ (ji43)
  rotate_left
  · rw [if_neg c44] at H
    exact absurd H (by simp)

  rw [if_pos c44] at H
  have c44b0 : decide (0 ≤ (ji43)) = true := decide_eq_true c44
  clear c44
  by_cases c45 : (ji43) < (l0.length : Int)
  rotate_left
  · rw [if_neg c45] at H
    exact absurd H (by simp)
  rw [if_pos c45] at H
  have c45b0 : decide ((ji43) < (l0.length : Int)) = true := decide_eq_true c45
  clear c45
  by_cases c46 : (rd l0 (ji43)) < 1
  · rw [if_pos c46] at H
    have c46b0 : decide ((rd l0 (ji43)) < 1) = true := decide_eq_true c46
    clear c46
    obtain ⟨y185, hy185⟩ : ∃ y_ : List Int, y_ = ([] : List Int) := ⟨_, rfl⟩
    replace H : (some (0, ([] : List Int), y185, 0, 23)) = some (r1, r2, r3, r4, r5) := by (rw [hy185]; with_reducible exact H)
    have Ny185 := Aside0.mk hy185
    clear hy185
    simp only [Option.some.injEq, Prod.mk.injEq] at H
    obtain ⟨rfl, rfl, rfl, rfl, rfl⟩ := H
    have p184 : 0 ≤ ((ji43) : Int) := of_decide_eq_true (by (with_reducible assumption))
    have q184 : (ji43) < (l0.length : Int) := of_decide_eq_true (by (with_reducible assumption))
    obtain ⟨ad184, e184, hx184_0⟩ := Kd.at_int HR0.out (ji43) p184 q184
    cases e184
    replace hx184_0 := pw_cell_below HB.out hx184_0
    replace p184 := eq_true p184
    replace q184 := eq_true q184
    have hnb47 := NB167_166.out
    have hnc47 := NB166_167.out
    have hcz48_0 : wr.cell? ⟨gb167, 0, none⟩ = some (.int .i64 0) := (blk_cell BK167.out 0).trans rfl
    have hcz48_1 : wr.cell? ⟨gb167, 1, none⟩ = some (.slice none 0 0) := (blk_cell BK167.out 1).trans rfl
    have hfz48_0 := blk_frozen BK167.out 0
    have hfz48_1 := blk_frozen BK167.out 1
    go_wp2_with ((((with_reducible refine gate_dst (N := 77) rfl ?_); (try (refine gate_guard (by rfl) ?_; dsimp only)); refine Kd.R_lit (Kd.int .u8) _ 5 ?hg (N := 77) ?hd (xs := ([] : List Int)) (inner := []) (ok := fun _ => True) (okp := fun _ => True) ?hr ?hp (fun _ hk => hk) trivial (Below.refl _ _) (Nat.le_refl _) (by simp) ?_; (case hd => rfl); (case hg => rfl); (case hr => (go_simp; done)); (case hp => exact (Reps.none _ _)); intro v186 w49 ho50 hb hg_ hnew_; clear hg_ hnew_; (rw [← Ny185.out] at ho50); have n0_ := Aside0.mk (Kd.R_lower ho50 (below_size HB.out)); have n1_ := Aside0.mk (blk_below (g := gb166) (o := .cells #[.int .i64 0, .slice none 0 0] 35 (0, 0)) (by exact BK166.out) hb); have n2_ := Aside0.mk (blk_below (g := gb167) (o := .cells #[.int .i64 0, .slice none 0 0] 35 (0, 0)) (by exact BK167.out) hb); have n3_ := Aside0.mk (below_step HB.out hb); clear BK166; clear BK167; clear HB; have HO187 := n0_; have BK166 := n1_; have BK167 := n2_; have HB := n3_; clear n0_ n1_ n2_ n3_; clear hb ho50; have hcz51_0 : w49.cell? ⟨gb166, 0, none⟩ = some (.int .i64 0) := (blk_cell BK166.out 0).trans rfl; have hcz51_1 : w49.cell? ⟨gb166, 1, none⟩ = some (.slice none 0 0) := (blk_cell BK166.out 1).trans rfl; have hfz51_0 := blk_frozen BK166.out 0; have hfz51_1 := blk_frozen BK166.out 1)))
    refine bodyPost_ret (results_list (rs := [.cell 4 35, .tmp 5, .tmp 6, .tmp 7]) rfl (by simp) (.cell gb166 35 #[.int .i64 0, .slice none 0 0] (0, 0) _ rfl (by refine blk_put (cs := #[.int .i64 0, .slice none 0 0]) ?_ 1 _ rfl; refine blk_put (cs := #[.int .i64 0, .slice none 0 0]) ?_ 0 _ rfl; exact BK166.out) Try.underlying35 rfl (by kernel_rfl) (.tmp (.tmp (.tmp .nil))))) rfl ?_
    exact ⟨_, _, by (rfl), by (exact Kd.R_nil _ _ _ _ _), by exact Kd.R_mono (Kd.R_far (p := ⟨gb166, 1, none⟩) (Kd.R_far (p := ⟨gb166, 0, none⟩) (Kd.R_types HO187.out BK166.out (by decide)) (fun _ hk => hk.2) (.int .i64 0)) (fun _ hk => hk.2) (.slice none 0 0)) (fun _ hk => (by simp [Value.ownBlock])), by repeat (with_reducible first | exact HB.out | refine below_set ?_ GE166.out)⟩
  rw [if_neg c46] at H
  have c46b0 : decide ((rd l0 (ji43)) < 1) = false := decide_eq_false c46
  clear c46
  by_cases c52 : (rd l0 (ji43)) > 3
  · rw [if_pos c52] at H
    have c52b0 : decide (3 < (rd l0 (ji43))) = true := decide_eq_true c52
    clear c52
    obtain ⟨y189, hy189⟩ : ∃ y_ : List Int, y_ = ([] : List Int) := ⟨_, rfl⟩
    replace H : (some (0, ([] : List Int), y189, 0, 23)) = some (r1, r2, r3, r4, r5) := by (rw [hy189]; with_reducible exact H)
    have Ny189 := Aside0.mk hy189
    clear hy189
    simp only [Option.some.injEq, Prod.mk.injEq] at H
    obtain ⟨rfl, rfl, rfl, rfl, rfl⟩ := H
    have p184 : 0 ≤ ((ji43) : Int) := of_decide_eq_true (by (with_reducible assumption))
    have q184 : (ji43) < (l0.length : Int) := of_decide_eq_true (by (with_reducible assumption))
    obtain ⟨ad184, e184, hx184_0⟩ := Kd.at_int HR0.out (ji43) p184 q184
    cases e184
    replace hx184_0 := pw_cell_below HB.out hx184_0
    replace p184 := eq_true p184
    replace q184 := eq_true q184
    have p188 : 0 ≤ ((ji43) : Int) := of_decide_eq_true (by (with_reducible assumption))
    have q188 : (ji43) < (l0.length : Int) := of_decide_eq_true (by (with_reducible assumption))
    obtain ⟨ad188, e188, hx188_0⟩ := Kd.at_int HR0.out (ji43) p188 q188
    obtain rfl : ad184 = ad188 := (by injection e188)
    replace hx188_0 := pw_cell_below HB.out hx188_0
    replace p188 := eq_true p188
    replace q188 := eq_true q188
    have hnb53 := NB167_166.out
    have hnc53 := NB166_167.out
    have hcz54_0 : wr.cell? ⟨gb167, 0, none⟩ = some (.int .i64 0) := (blk_cell BK167.out 0).trans rfl
    have hcz54_1 : wr.cell? ⟨gb167, 1, none⟩ = some (.slice none 0 0) := (blk_cell BK167.out 1).trans rfl
    have hfz54_0 := blk_frozen BK167.out 0
    have hfz54_1 := blk_frozen BK167.out 1
    go_wp2_with ((((with_reducible refine gate_dst (N := 77) rfl ?_); (try (refine gate_guard (by rfl) ?_; dsimp only)); refine Kd.R_lit (Kd.int .u8) _ 5 ?hg (N := 77) ?hd (xs := ([] : List Int)) (inner := []) (ok := fun _ => True) (okp := fun _ => True) ?hr ?hp (fun _ hk => hk) trivial (Below.refl _ _) (Nat.le_refl _) (by simp) ?_; (case hd => rfl); (case hg => rfl); (case hr => (go_simp; done)); (case hp => exact (Reps.none _ _)); intro v190 w55 ho56 hb hg_ hnew_; clear hg_ hnew_; (rw [← Ny189.out] at ho56); have n0_ := Aside0.mk (Kd.R_lower ho56 (below_size HB.out)); have n1_ := Aside0.mk (blk_below (g := gb166) (o := .cells #[.int .i64 0, .slice none 0 0] 35 (0, 0)) (by exact BK166.out) hb); have n2_ := Aside0.mk (blk_below (g := gb167) (o := .cells #[.int .i64 0, .slice none 0 0] 35 (0, 0)) (by exact BK167.out) hb); have n3_ := Aside0.mk (below_step HB.out hb); clear BK166; clear BK167; clear HB; have HO191 := n0_; have BK166 := n1_; have BK167 := n2_; have HB := n3_; clear n0_ n1_ n2_ n3_; clear hb ho56; have hcz57_0 : w55.cell? ⟨gb166, 0, none⟩ = some (.int .i64 0) := (blk_cell BK166.out 0).trans rfl; have hcz57_1 : w55.cell? ⟨gb166, 1, none⟩ = some (.slice none 0 0) := (blk_cell BK166.out 1).trans rfl; have hfz57_0 := blk_frozen BK166.out 0; have hfz57_1 := blk_frozen BK166.out 1)))
    refine bodyPost_ret (results_list (rs := [.cell 4 35, .tmp 5, .tmp 6, .tmp 7]) rfl (by simp) (.cell gb166 35 #[.int .i64 0, .slice none 0 0] (0, 0) _ rfl (by refine blk_put (cs := #[.int .i64 0, .slice none 0 0]) ?_ 1 _ rfl; refine blk_put (cs := #[.int .i64 0, .slice none 0 0]) ?_ 0 _ rfl; exact BK166.out) Try.underlying35 rfl (by kernel_rfl) (.tmp (.tmp (.tmp .nil))))) rfl ?_
    exact ⟨_, _, by (rfl), by (exact Kd.R_nil _ _ _ _ _), by exact Kd.R_mono (Kd.R_far (p := ⟨gb166, 1, none⟩) (Kd.R_far (p := ⟨gb166, 0, none⟩) (Kd.R_types HO191.out BK166.out (by decide)) (fun _ hk => hk.2) (.int .i64 0)) (fun _ hk => hk.2) (.slice none 0 0)) (fun _ hk => (by simp [Value.ownBlock])), by repeat (with_reducible first | exact HB.out | refine below_set ?_ GE166.out)⟩
  rw [if_neg c52] at H
  have c52b0 : decide (3 < (rd l0 (ji43))) = false := decide_eq_false c52
  clear c52
  obtain ⟨y193, hy193⟩ : ∃ y_ : List Int, y_ = ([] : List Int) := ⟨_, rfl⟩
  replace H : (if 0 ≤ (wrap64 (a1 + 5)) then (if (wrap64 (a1 + 5)) ≤ (wrap64 ((ji43) + x9_2)) then (if (wrap64 ((ji43) + x9_2)) ≤ (l0.length : Int) then (if y193.length + ((l0.take ((wrap64 ((ji43) + x9_2)) : Int).toNat).drop ((wrap64 (a1 + 5)) : Int).toNat).length < 140737488355328 then ((some (([] : List Int) : List Int)).bind fun y201 => (if 0 ≤ (wrap64 ((ji43) + x9_2)) then (if (wrap64 ((ji43) + x9_2)) ≤ (wrap64 ((wrap64 (a1 + 36)) + x9_2)) then (if (wrap64 ((wrap64 (a1 + 36)) + x9_2)) ≤ (l0.length : Int) then (if y201.length + ((l0.take ((wrap64 ((wrap64 (a1 + 36)) + x9_2)) : Int).toNat).drop ((wrap64 ((ji43) + x9_2)) : Int).toNat).length < 140737488355328 then (some (wrap64 (rd l0 (ji43)), (y193 ++ ((l0.take ((wrap64 ((ji43) + x9_2)) : Int).toNat).drop ((wrap64 (a1 + 5)) : Int).toNat)), (y201 ++ ((l0.take ((wrap64 ((wrap64 (a1 + 36)) + x9_2)) : Int).toNat).drop ((wrap64 ((ji43) + x9_2)) : Int).toNat)), wrap64 ((wrap64 (a1 + 36)) + x9_2), 0)) else (none)) else (none)) else (none)) else (none))) else (none)) else (none)) else (none)) else (none)) = some (r1, r2, r3, r4, r5) := by ((have H2_ := (Option.bind_some _ _).symm.trans H; rw [hy193]; with_reducible exact H2_))
  have Ny193 := Aside0.mk hy193
  clear hy193
  obtain ⟨ji58, hji58⟩ : ∃ j_ : Int, (wrap64 (a1 + 5)) = j_ := ⟨_, rfl⟩
  replace H : (if 0 ≤ (ji58) then (if (ji58) ≤ (wrap64 ((ji43) + x9_2)) then (if (wrap64 ((ji43) + x9_2)) ≤ (l0.length : Int) then (if y193.length + ((l0.take ((wrap64 ((ji43) + x9_2)) : Int).toNat).drop ((ji58) : Int).toNat).length < 140737488355328 then ((some (([] : List Int) : List Int)).bind fun y201 => (if 0 ≤ (wrap64 ((ji43) + x9_2)) then (if (wrap64 ((ji43) + x9_2)) ≤ (wrap64 ((wrap64 (a1 + 36)) + x9_2)) then (if (wrap64 ((wrap64 (a1 + 36)) + x9_2)) ≤ (l0.length : Int) then (if y201.length + ((l0.take ((wrap64 ((wrap64 (a1 + 36)) + x9_2)) : Int).toNat).drop ((wrap64 ((ji43) + x9_2)) : Int).toNat).length < 140737488355328 then (some (wrap64 (rd l0 (ji43)), (y193 ++ ((l0.take ((wrap64 ((ji43) + x9_2)) : Int).toNat).drop ((ji58) : Int).toNat)), (y201 ++ ((l0.take ((wrap64 ((wrap64 (a1 + 36)) + x9_2)) : Int).toNat).drop ((wrap64 ((ji43) + x9_2)) : Int).toNat)), wrap64 ((wrap64 (a1 + 36)) + x9_2), 0)) else (none)) else (none)) else (none)) else (none))) else (none)) else (none)) else (none)) else (none)) = some (r1, r2, r3, r4, r5) := by (rw [hji58] at H; exact H)
  have hji58w : (IntKind.i64.wrap (a1 + 5)) = ji58 := (i64_w _).trans hji58
  by_cases c59 : 0 ≤ (ji58)
  rotate_left
  · rw [if_neg c59] at H
    exact absurd H (by simp)
  rw [if_pos c59] at H
  have c59b0 := eq_true c59
  have c59b1 : decide (0 ≤ (ji58)) = true := decide_eq_true c59
  clear c59
  by_cases c60 : (ji58) ≤ (wrap64 ((ji43) + x9_2))
  rotate_left
  · rw [if_neg c60] at H
    exact absurd H (by simp)
  rw [if_pos c60] at H
  have c60b0 := eq_true c60
  have c60b1 : decide ((ji58) ≤ (wrap64 ((ji43) + x9_2))) = true := decide_eq_true c60
  by_cases c61 : (wrap64 ((ji43) + x9_2)) ≤ (l0.length : Int)
  rotate_left
  · rw [if_neg c61] at H
    exact absurd H (by simp)
  rw [if_pos c61] at H
  have c61b0 := eq_true c61
  have c61b1 : decide ((wrap64 ((ji43) + x9_2)) ≤ (l0.length : Int)) = true := decide_eq_true c61
  by_cases c62 : y193.length + ((l0.take ((wrap64 ((ji43) + x9_2)) : Int).toNat).drop ((ji58) : Int).toNat).length < 140737488355328
  rotate_left
  · rw [if_neg c62] at H
    exact absurd H (by simp)
  rw [if_pos c62] at H
  have LMc62 := Aside0.mk c62
  clear c62
  obtain ⟨y197, hy197⟩ : ∃ y_ : List Int, y_ = (y193 ++ ((l0.take ((wrap64 ((ji43) + x9_2)) : Int).toNat).drop ((ji58) : Int).toNat)) := ⟨_, rfl⟩
  replace H : ((some (([] : List Int) : List Int)).bind fun y201 => (if 0 ≤ (wrap64 ((ji43) + x9_2)) then (if (wrap64 ((ji43) + x9_2)) ≤ (wrap64 ((wrap64 (a1 + 36)) + x9_2)) then (if (wrap64 ((wrap64 (a1 + 36)) + x9_2)) ≤ (l0.length : Int) then (if y201.length + ((l0.take ((wrap64 ((wrap64 (a1 + 36)) + x9_2)) : Int).toNat).drop ((wrap64 ((ji43) + x9_2)) : Int).toNat).length < 140737488355328 then (some (wrap64 (rd l0 (ji43)), y197, (y201 ++ ((l0.take ((wrap64 ((wrap64 (a1 + 36)) + x9_2)) : Int).toNat).drop ((wrap64 ((ji43) + x9_2)) : Int).toNat)), wrap64 ((wrap64 (a1 + 36)) + x9_2), 0)) else (none)) else (none)) else (none)) else (none))) = some (r1, r2, r3, r4, r5) := by (rw [hy197]; with_reducible exact H)
  have Ny197 := Aside0.mk hy197
  clear hy197
  obtain ⟨y201, hy201⟩ : ∃ y_ : List Int, y_ = ([] : List Int) := ⟨_, rfl⟩
  replace H : (if 0 ≤ (wrap64 ((ji43) + x9_2)) then (if (wrap64 ((ji43) + x9_2)) ≤ (wrap64 ((wrap64 (a1 + 36)) + x9_2)) then (if (wrap64 ((wrap64 (a1 + 36)) + x9_2)) ≤ (l0.length : Int) then (if y201.length + ((l0.take ((wrap64 ((wrap64 (a1 + 36)) + x9_2)) : Int).toNat).drop ((wrap64 ((ji43) + x9_2)) : Int).toNat).length < 140737488355328 then (some (wrap64 (rd l0 (ji43)), y197, (y201 ++ ((l0.take ((wrap64 ((wrap64 (a1 + 36)) + x9_2)) : Int).toNat).drop ((wrap64 ((ji43) + x9_2)) : Int).toNat)), wrap64 ((wrap64 (a1 + 36)) + x9_2), 0)) else (none)) else (none)) else (none)) else (none)) = some (r1, r2, r3, r4, r5) := by ((have H2_ := (Option.bind_some _ _).symm.trans H; rw [hy201]; with_reducible exact H2_))
  have Ny201 := Aside0.mk hy201
  clear hy201
  obtain ⟨ji63, hji63⟩ : ∃ j_ : Int, (wrap64 ((ji43) + x9_2)) = j_ := ⟨_, rfl⟩
  replace H : (if 0 ≤ (ji63) then (if (ji63) ≤ (wrap64 ((wrap64 (a1 + 36)) + x9_2)) then (if (wrap64 ((wrap64 (a1 + 36)) + x9_2)) ≤ (l0.length : Int) then (if y201.length + ((l0.take ((wrap64 ((wrap64 (a1 + 36)) + x9_2)) : Int).toNat).drop ((ji63) : Int).toNat).length < 140737488355328 then (some (wrap64 (rd l0 (ji43)), y197, (y201 ++ ((l0.take ((wrap64 ((wrap64 (a1 + 36)) + x9_2)) : Int).toNat).drop ((ji63) : Int).toNat)), wrap64 ((wrap64 (a1 + 36)) + x9_2), 0)) else (none)) else (none)) else (none)) else (none)) = some (r1, r2, r3, r4, r5) := by (rw [hji63] at H; exact H)
  (try rw [hji63] at c60b0)
  (try rw [hji63] at c60b1)
  (try rw [hji63] at c60)
  (try rw [hji63] at c61b0)
  (try rw [hji63] at c61b1)
  (try rw [hji63] at c61)
  (try rw [hji63] at Ny197)
  (skip)
  (skip)
  have hji63w : (IntKind.i64.wrap ((ji43) + x9_2)) = ji63 := (i64_w _).trans hji63
  by_cases c64 : 0 ≤ (ji63)
  rotate_left
  · rw [if_neg c64] at H
    exact absurd H (by simp)
  rw [if_pos c64] at H
  have c64b0 := eq_true c64
  have c64b1 : decide (0 ≤ (ji63)) = true := decide_eq_true c64
  clear c64
  by_cases c65 : (ji63) ≤ (wrap64 ((wrap64 (a1 + 36)) + x9_2))
  rotate_left
  · rw [if_neg c65] at H
    exact absurd H (by simp)
  rw [if_pos c65] at H
  have c65b0 := eq_true c65
  have c65b1 : decide ((ji63) ≤ (wrap64 ((wrap64 (a1 + 36)) + x9_2))) = true := decide_eq_true c65
  by_cases c66 : (wrap64 ((wrap64 (a1 + 36)) + x9_2)) ≤ (l0.length : Int)
  rotate_left
  · rw [if_neg c66] at H
    exact absurd H (by simp)
  rw [if_pos c66] at H
  have c66b0 := eq_true c66
  have c66b1 : decide ((wrap64 ((wrap64 (a1 + 36)) + x9_2)) ≤ (l0.length : Int)) = true := decide_eq_true c66
  by_cases c67 : y201.length + ((l0.take ((wrap64 ((wrap64 (a1 + 36)) + x9_2)) : Int).toNat).drop ((ji63) : Int).toNat).length < 140737488355328
  rotate_left
  · rw [if_neg c67] at H
    exact absurd H (by simp)
  rw [if_pos c67] at H
  have LMc67 := Aside0.mk c67
  clear c67
  obtain ⟨y205, hy205⟩ : ∃ y_ : List Int, y_ = (y201 ++ ((l0.take ((wrap64 ((wrap64 (a1 + 36)) + x9_2)) : Int).toNat).drop ((ji63) : Int).toNat)) := ⟨_, rfl⟩
  replace H : (some (wrap64 (rd l0 (ji43)), y197, y205, wrap64 ((wrap64 (a1 + 36)) + x9_2), 0)) = some (r1, r2, r3, r4, r5) := by (rw [hy205]; with_reducible exact H)
  have Ny205 := Aside0.mk hy205
  clear hy205
  simp only [Option.some.injEq, Prod.mk.injEq] at H
  obtain ⟨rfl, rfl, rfl, rfl, rfl⟩ := H
  have p184 : 0 ≤ ((ji43) : Int) := of_decide_eq_true (by (with_reducible assumption))
  have q184 : (ji43) < (l0.length : Int) := of_decide_eq_true (by (with_reducible assumption))
  obtain ⟨ad184, e184, hx184_0⟩ := Kd.at_int HR0.out (ji43) p184 q184
  cases e184
  replace hx184_0 := pw_cell_below HB.out hx184_0
  replace p184 := eq_true p184
  replace q184 := eq_true q184
  have p188 : 0 ≤ ((ji43) : Int) := of_decide_eq_true (by (with_reducible assumption))
  have q188 : (ji43) < (l0.length : Int) := of_decide_eq_true (by (with_reducible assumption))
  obtain ⟨ad188, e188, hx188_0⟩ := Kd.at_int HR0.out (ji43) p188 q188
  obtain rfl : ad184 = ad188 := (by injection e188)
  replace hx188_0 := pw_cell_below HB.out hx188_0
  replace p188 := eq_true p188
  replace q188 := eq_true q188
  try go_wp2
  have n0_ := Aside0.mk (blk_drew BK166.out)
  have n1_ := Aside0.mk (blk_drew BK167.out)
  have n2_ := Aside0.mk (below_drew1 HB.out)
  clear BK166
  clear BK167
  clear HB
  have BK166 := n0_
  have BK167 := n1_
  have HB := n2_
  clear n0_ n1_ n2_
  have p192 : 0 ≤ ((ji43) : Int) := of_decide_eq_true (by (with_reducible assumption))
  have q192 : (ji43) < (l0.length : Int) := of_decide_eq_true (by (with_reducible assumption))
  obtain ⟨ad192, e192, hx192_0⟩ := Kd.at_int HR0.out (ji43) p192 q192
  have hw192_0 := hx192_0
  obtain rfl : ad184 = ad192 := (by injection e192)
  replace hx192_0 := pw_cell_below HB.out hx192_0
  replace p192 := eq_true p192
  replace q192 := eq_true q192
  obtain ⟨i069, hi069, _, hsz69, _⟩ := info_parts info5
  obtain ⟨A69, hcut69, hA69, hC69⟩ := print_mid_of (P := Try.prog) (Value.int .u8) 0 22 5 .i64 .i64 Try.underlying22 hi069 hsz69 (some ad184) c0 l0 (ji58) (ji63) (of_decide_eq_true (by (with_reducible assumption))) (by (omega)) (of_decide_eq_true (by (with_reducible assumption))) HC0.out
  have HR196 := Aside0.mk (Kd.C_of_reads (h1 := fun _ => rfl) (hA69 _ (Kd.reads_of_C HR0.out)))
  have HC196 := Aside0.mk hC69
  clear hA69 hC69 hi069 hsz69
  refine start_ (n := 19) (S := fun w' => w'.cell? (ad184.add (ji43).toNat) = some (.int .u8 (rd l0 (ji43)))) (ds := []) (bl 19 0) (by kernel_rfl) rfl rfl ((pw_cell_below HB.out hw192_0)) (fun hHeld => ?_); refine with_tabW notaryref46_Read.tab19 notaryref46_Read.bits19 (fun HT_ HW_ => ?_)
  generalize wr.drew = w68 at BK166 BK167 HB HR196 hx192_0 hHeld ⊢
  refine pure_ (i := 0) (N := some 78) (v := ?_) (a' := ?_) (bl 19 1) rfl rfl (any_of HT_.out (by kernel_rfl)) (fun _ _ _ h => h) (Or.inl ⟨by rfl, ?_⟩) ?_ ?_
  rotate_left
  · intro w'; go_simp; with_reducible rfl
  rotate_left
  · simp only [Act.put, sa_, sz_, ss_, i64_w, i32_w]; rfl
  refine pure_ (i := 1) (N := some 79) (v := ?_) (a' := ?_) (bl 19 3) rfl rfl (any_of HT_.out (by kernel_rfl)) (fun _ _ _ h => h) (Or.inl ⟨by rfl, ?_⟩) ?_ ?_
  rotate_left
  · intro w'; go_simp; with_reducible rfl
  rotate_left
  · simp only [Act.put, sa_, sz_, ss_, i64_w, i32_w]; rfl
  refine pure_ (i := 2) (N := some 80) (v := ?_) (a' := ?_) (bl 19 7) rfl rfl (any_of HT_.out (by kernel_rfl)) (fun _ _ _ h => h) (Or.inl ⟨by rfl, ?_⟩) ?_ ?_
  rotate_left
  · intro w'; go_simp; with_reducible rfl
  rotate_left
  · simp only [Act.put, sa_, sz_, ss_, i64_w, i32_w]; rfl
  refine pure_ (i := 3) (N := some 81) (v := ?_) (a' := ?_) (bl 19 15) rfl rfl (any_of HT_.out (by kernel_rfl)) (fun _ _ _ h => h) (Or.inl ⟨by rfl, ?_⟩) ?_ ?_
  rotate_left
  · intro w'; go_simp; with_reducible rfl
  rotate_left
  · simp only [Act.put, sa_, sz_, ss_, i64_w, i32_w]; rfl
  refine pure_ (i := 7) (N := some 85) (v := ?_) (a' := ?_) (bl 19 143) rfl rfl (any_of HT_.out (by kernel_rfl)) (fun _ _ _ h => h) (Or.inl ⟨by rfl, ?_⟩) ?_ ?_
  rotate_left
  · intro w'; go_simp; with_reducible rfl
  rotate_left
  · simp only [Act.put, sa_, sz_, ss_, i64_w, i32_w]; rfl
  refine pure_ (i := 8) (N := some 86) (v := ?_) (a' := ?_) (bl 19 399) rfl rfl (any_of HT_.out (by kernel_rfl)) (fun _ _ _ h => h) (Or.inl ⟨by rfl, ?_⟩) ?_ ?_
  rotate_left
  · intro w'; go_simp; with_reducible rfl
  rotate_left
  · simp only [Act.put, sa_, sz_, ss_, i64_w, i32_w]; rfl
  refine pure_ (i := 9) (N := some 87) (v := ?_) (a' := ?_) (bl 19 911) rfl rfl (any_of HT_.out (by kernel_rfl)) (fun _ _ _ h => h) (Or.inl ⟨by rfl, ?_⟩) ?_ ?_
  rotate_left
  · intro w'; go_simp; with_reducible rfl
  rotate_left
  · simp only [Act.put, sa_, sz_, ss_, i64_w, i32_w]; rfl
  refine pure_ (i := 10) (N := some 88) (v := ?_) (a' := ?_) (bl 19 1935) rfl rfl (any_of HT_.out (by kernel_rfl)) (fun _ _ _ h => h) (Or.inl ⟨by rfl, ?_⟩) ?_ ?_
  rotate_left
  · intro w'; go_simp; with_reducible rfl
  rotate_left
  · simp only [Act.put, sa_, sz_, ss_, i64_w, i32_w]; rfl
  refine pure_ (i := 11) (N := some 89) (v := ?_) (a' := ?_) (bl 19 3983) rfl rfl (any_of HT_.out (by kernel_rfl)) (fun _ _ _ h => h) (Or.inl ⟨by rfl, ?_⟩) ?_ ?_
  rotate_left
  · intro w'; go_simp; with_reducible rfl
  rotate_left
  · simp only [Act.put, sa_, sz_, ss_, i64_w, i32_w]; rfl
  refine pure_ (i := 12) (N := some 90) (v := ?_) (a' := ?_) (bl 19 8079) rfl rfl (any_of HT_.out (by kernel_rfl)) (fun _ _ _ h => h) (Or.inl ⟨by rfl, ?_⟩) ?_ ?_
  rotate_left
  · intro w'; go_simp; with_reducible rfl
  rotate_left
  · simp only [Act.put, sa_, sz_, ss_, i64_w, i32_w]; rfl
  refine pure_ (i := 13) (N := some 91) (v := ?_) (a' := ?_) (bl 19 16271) rfl rfl (any_of HT_.out (by kernel_rfl)) (fun _ _ _ h => h) (Or.inl ⟨by rfl, ?_⟩) ?_ ?_
  rotate_left
  · intro w'; go_simp; with_reducible rfl
  rotate_left
  · simp only [Act.put, sa_, sz_, ss_, i64_w, i32_w]; rfl
  refine pure_ (i := 14) (N := some 92) (v := ?_) (a' := ?_) (bl 19 32655) rfl rfl (any_of HT_.out (by kernel_rfl)) (fun _ _ _ h => h) (Or.inl ⟨by rfl, ?_⟩) ?_ ?_
  rotate_left
  · intro w'; go_simp; with_reducible rfl
  rotate_left
  · simp only [Act.put, sa_, sz_, ss_, i64_w, i32_w]; rfl
  refine take_ (i := 4) (N := some 82) (v := ?_) (a' := ?_) (bl 19 32671) rfl rfl (take_ofW HT_.out HW_.out (by kernel_rfl)) (fun _ _ _ h => h) (Or.inl ⟨by rfl, ?_⟩) hHeld ?_ ?_
  rotate_left
  · intro w' s0
    go_simp
    with_reducible rfl
  rotate_left
  · simp only [Act.put, sa_, sz_, ss_, i64_w, i32_w]; rfl
  refine pure_ (i := 5) (N := some 83) (v := ?_) (a' := ?_) (bl 19 32703) rfl rfl (any_of HT_.out (by kernel_rfl)) (fun _ _ _ h => h) (Or.inl ⟨by rfl, ?_⟩) ?_ ?_
  rotate_left
  · intro w'; go_simp; with_reducible rfl
  rotate_left
  · simp only [Act.put, sa_, sz_, ss_, i64_w, i32_w]; rfl
  refine join_ (σ := Value × Value × Nat) 1 (bl 19 262143) (fun s_ => [(84, s_.1), (93, s_.2.1), (11, .pointer (some ⟨s_.2.2, 0, none⟩)), (94, .agg #[.int .i64 (wrap64 (rd l0 (ji43))), s_.2.1])]) (fun s_ w' => (w'.cell? (ad184.add (ji43).toNat) = some (.int .u8 (rd l0 (ji43)))) ∧ (Kd.R (Kd.int .u8) 5 w' w.heap.size (fun _ => True) s_.2.1 y197) ∧ (w'.heap[gb166]? = some (.cells #[.int .i64 0, .slice none 0 0] 35 (0, 0))) ∧ (w'.heap[gb167]? = some (.cells #[.int .i64 0, .slice none 0 0] 35 (0, 0))) ∧ (w'.heap[s_.2.2]? = some (.cells #[.int .i64 0, .slice none 0 0] 35 (0, 0))) ∧ (w.heap.size ≤ s_.2.2) ∧ (w.heap.size ≤ s_.2.2) ∧ (gb166 ≠ s_.2.2) ∧ (s_.2.2 ≠ gb166) ∧ (gb167 ≠ s_.2.2) ∧ (s_.2.2 ≠ gb167) ∧ (Below w.heap.size w w')) ?_ ?_
  rotate_left
  · intro hCont
    refine two_ (i := 6) (j := 17) (Ni := some 84) (Nj := some 11) (bl 19 32767) (bl 19 163775) rfl rfl rfl rfl (two_of HT_.out (by kernel_rfl)) (by decide) (by decide) (fun K hK => ?_) (fun K hK => ?_)
    · skip
      refine Kd.R_lit_step (Kd.int .u8) _ 5 ?hg (N := 84) ?hd (xs := ([] : List Int)) (inner := []) (ok := fun _ => True) (okp := fun _ => True) ?hr ?hp (fun _ hk => hk) trivial (Below.refl _ _) (Nat.le_refl _) (by simp) ?_; (case hd => rfl); (case hg => rfl); (case hr => (go_simp; done)); (case hp => exact (Reps.none _ _))
      intro v194 w70 ho71 hb hg_ hnew_
      clear hg_ hnew_
      (rw [← Ny193.out] at ho71)
      have n0_ := Aside0.mk (Kd.R_lower ho71 (below_size HB.out))
      have n1_ := Aside0.mk (blk_below (g := gb166) (o := .cells #[.int .i64 0, .slice none 0 0] 35 (0, 0)) (by exact BK166.out) hb)
      have n2_ := Aside0.mk (blk_below (g := gb167) (o := .cells #[.int .i64 0, .slice none 0 0] 35 (0, 0)) (by exact BK167.out) hb)
      have n3_ := Aside0.mk (below_step HB.out hb)
      clear BK166
      clear BK167
      clear HB
      have HO195 := n0_
      have BK166 := n1_
      have BK167 := n2_
      have HB := n3_
      clear n0_ n1_ n2_ n3_
      clear hb ho71
      refine hK.out _ _ ((pw_cell_below HB.out hw192_0)) (fun hHeld => ?_)
      clear hK K
      refine norm_ (a' := ?_) ?_ ?_
      rotate_left
      · show Act.put _ (some 84) _ = _
        simp only [Act.put, sa_, sz_, ss_, i64_w, i32_w]
        rfl
      refine two_ (i := 15) (j := 17) (Ni := some 93) (Nj := some 11) (bl 19 65535) (bl 19 163839) rfl rfl rfl rfl (two_of HT_.out (by kernel_rfl)) (by decide) (by decide) (fun K hK => ?_) (fun K hK => ?_)
      · skip
        refine Kd.R_append_rows_step (Kd.int .u8) (w0 := w) w.heap.size (by rfl) (.tmp 84) (.tmp 92) 22 5 (.int .u8 0) 1 rfl Try.underlying22 info5 rfl (by decide) (by omega) v194 y193 ((l0.take ((ji63) : Int).toNat).drop ((ji58) : Int).toNat) _ _ _ (fun _ => True) (fun _ => False) rfl rfl ?aO ?aR (fun _ _ h => h) (fun _ h => h.elim) ?aF ?aB ?aS ?aL ?_
        (case aR => ((rw [← show ((l0.take ((ji63) : Int).toNat).drop ((ji58) : Int).toNat).length = ((ji63).toNat - (ji58).toNat) from (by rw [List.length_drop, List.length_take]; have h_ : ((ji63) : Int) ≤ (l0.length : Int) := of_decide_eq_true (by (with_reducible assumption)); omega)]; repeat ((exact (Kd.C_below HR196.out HB.out))))))
        (case aB => exact HB.out)
        (case aF => exact (fun _ _ => trivial))
        (case aO => exact (by exact HO195.out))
        (case aS => exact (below_size HB.out))
        (case aL => have := LMc62.out; (try (rw [hji63] at this)); (try first | rw [hji58] at this); have hlx_ := (show ((l0.take ((ji63) : Int).toNat).drop ((ji58) : Int).toNat).length = ((ji63).toNat - (ji58).toNat) from (by rw [List.length_drop, List.length_take]; have h_ : ((ji63) : Int) ≤ (l0.length : Int) := of_decide_eq_true (by (with_reducible assumption)); omega)); omega)
        intro v198 w72 ho hb hg hat
        rw [← Ny197.out] at ho
        have n0_ := Aside0.mk (blk_grown (g := gb166) (o := .cells #[.int .i64 0, .slice none 0 0] 35 (0, 0)) (by exact BK166.out) hg (Kd.R_ne HO195.out BK166.out (by decide)))
        have n1_ := Aside0.mk (blk_grown (g := gb167) (o := .cells #[.int .i64 0, .slice none 0 0] 35 (0, 0)) (by exact BK167.out) hg (Kd.R_ne HO195.out BK167.out (by decide)))
        have n2_ := Aside0.mk (hb)
        have n3_ := Aside0.mk (ho)
        clear BK166
        clear BK167
        clear HB
        clear HO195
        have BK166 := n0_
        have BK167 := n1_
        have HB := n2_
        have HO199 := n3_
        clear n0_ n1_ n2_ n3_
        clear ho hb hg hat
        obtain ⟨Ao73, co73, eo73⟩ := Kd.R_slice HO199.out
        (subst eo73)
        refine hK.out _ _ ((pw_cell_below HB.out hw192_0)) (fun hHeld => ?_)
        clear hK K
        refine norm_ (a' := ?_) ?_ ?_
        rotate_left
        · show Act.put _ (some 93) _ = _
          simp only [Act.put, sa_, sz_, ss_, i64_w, i32_w]
          rfl
        refine pure_ (i := 16) (N := some 94) (v := ?_) (a' := ?_) (bl 19 131071) rfl rfl (any_of HT_.out (by kernel_rfl)) (fun _ _ _ h => h) (Or.inl ⟨by rfl, ?_⟩) ?_ ?_
        rotate_left
        · intro w'; go_simp; with_reducible rfl
        rotate_left
        · simp only [Act.put, sa_, sz_, ss_, i64_w, i32_w]; rfl
        refine one_ (i := 17) (N := some 11) (bl 19 262143) rfl rfl (one_of HT_.out (by kernel_rfl)) (by decide) (fun K hK => ?_)
        refine box_step ?hg (N := 11) ?hd (cs := #[.int .i64 0, .slice none 0 0]) (t := 35) ?hr ?_; (case hd => rfl); (case hg => rfl); (case hr => (go_simp; done))
        intro gb200 hg w74 hbox hb
        have n0_ := Aside0.mk (Kd.R_below (by exact HO199.out) hb)
        have n1_ := Aside0.mk (blk_below (g := gb166) (o := .cells #[.int .i64 0, .slice none 0 0] 35 (0, 0)) (by exact BK166.out) hb)
        have n2_ := Aside0.mk (blk_below (g := gb167) (o := .cells #[.int .i64 0, .slice none 0 0] 35 (0, 0)) (by exact BK167.out) hb)
        have n3_ := Aside0.mk (below_step HB.out hb)
        have n4_ := Aside0.mk (hbox)
        have n5_ := Aside0.mk ((by rw [hg]; exact (below_size HB.out) : w.heap.size ≤ gb200))
        have n6_ := Aside0.mk ((by rw [hg]; exact (below_size HB.out) : w.heap.size ≤ gb200))
        have n7_ := Aside0.mk ((by rw [hg]; exact Nat.ne_of_lt (blk_lt (g := gb166) (o := .cells #[.int .i64 0, .slice none 0 0] 35 (0, 0)) (by exact BK166.out)) : gb166 ≠ gb200))
        have n8_ := Aside0.mk ((by rw [hg]; exact Nat.ne_of_gt (blk_lt (g := gb166) (o := .cells #[.int .i64 0, .slice none 0 0] 35 (0, 0)) (by exact BK166.out)) : gb200 ≠ gb166))
        have n9_ := Aside0.mk ((by rw [hg]; exact Nat.ne_of_lt (blk_lt (g := gb167) (o := .cells #[.int .i64 0, .slice none 0 0] 35 (0, 0)) (by exact BK167.out)) : gb167 ≠ gb200))
        have n10_ := Aside0.mk ((by rw [hg]; exact Nat.ne_of_gt (blk_lt (g := gb167) (o := .cells #[.int .i64 0, .slice none 0 0] 35 (0, 0)) (by exact BK167.out)) : gb200 ≠ gb167))
        clear HO199
        clear BK166
        clear BK167
        clear HB
        have HO199 := n0_
        have BK166 := n1_
        have BK167 := n2_
        have HB := n3_
        have BK200 := n4_
        have GW200 := n5_
        have GE200 := n6_
        have NB166_200 := n7_
        have NB200_166 := n8_
        have NB167_200 := n9_
        have NB200_167 := n10_
        clear n0_ n1_ n2_ n3_ n4_ n5_ n6_ n7_ n8_ n9_ n10_
        clear hb hbox hg
        refine hK.out _ _ ((pw_cell_below HB.out hw192_0)) (fun hHeld => ?_)
        clear hK K
        refine norm_ (a' := ?_) ?_ ?_
        rotate_left
        · show Act.put _ (some 11) _ = _
          simp only [Act.put, sa_, sz_, ss_, i64_w, i32_w]
          rfl
        exact norm_ (by simp only [putAll, Act.put, sa_, sz_, ss_]) (hCont (v194, .slice Ao73 y197.length co73, gb200) _ ⟨hHeld, (by exact HO199.out), (by exact BK166.out), (by exact BK167.out), (by exact BK200.out), GW200.out, GE200.out, NB166_200.out, NB200_166.out, NB167_200.out, NB200_167.out, HB.out⟩)
      · skip
        refine box_step ?hg (N := 11) ?hd (cs := #[.int .i64 0, .slice none 0 0]) (t := 35) ?hr ?_; (case hd => rfl); (case hg => rfl); (case hr => (go_simp; done))
        intro gb200 hg w72 hbox hb
        have n0_ := Aside0.mk (Kd.R_below (by exact HO195.out) hb)
        have n1_ := Aside0.mk (blk_below (g := gb166) (o := .cells #[.int .i64 0, .slice none 0 0] 35 (0, 0)) (by exact BK166.out) hb)
        have n2_ := Aside0.mk (blk_below (g := gb167) (o := .cells #[.int .i64 0, .slice none 0 0] 35 (0, 0)) (by exact BK167.out) hb)
        have n3_ := Aside0.mk (below_step HB.out hb)
        have n4_ := Aside0.mk (hbox)
        have n5_ := Aside0.mk ((by rw [hg]; exact (below_size HB.out) : w.heap.size ≤ gb200))
        have n6_ := Aside0.mk ((by rw [hg]; exact (below_size HB.out) : w.heap.size ≤ gb200))
        have n7_ := Aside0.mk ((by rw [hg]; exact Nat.ne_of_lt (blk_lt (g := gb166) (o := .cells #[.int .i64 0, .slice none 0 0] 35 (0, 0)) (by exact BK166.out)) : gb166 ≠ gb200))
        have n8_ := Aside0.mk ((by rw [hg]; exact Nat.ne_of_gt (blk_lt (g := gb166) (o := .cells #[.int .i64 0, .slice none 0 0] 35 (0, 0)) (by exact BK166.out)) : gb200 ≠ gb166))
        have n9_ := Aside0.mk ((by rw [hg]; exact Nat.ne_of_lt (blk_lt (g := gb167) (o := .cells #[.int .i64 0, .slice none 0 0] 35 (0, 0)) (by exact BK167.out)) : gb167 ≠ gb200))
        have n10_ := Aside0.mk ((by rw [hg]; exact Nat.ne_of_gt (blk_lt (g := gb167) (o := .cells #[.int .i64 0, .slice none 0 0] 35 (0, 0)) (by exact BK167.out)) : gb200 ≠ gb167))
        clear HO195
        clear BK166
        clear BK167
        clear HB
        have HO195 := n0_
        have BK166 := n1_
        have BK167 := n2_
        have HB := n3_
        have BK200 := n4_
        have GW200 := n5_
        have GE200 := n6_
        have NB166_200 := n7_
        have NB200_166 := n8_
        have NB167_200 := n9_
        have NB200_167 := n10_
        clear n0_ n1_ n2_ n3_ n4_ n5_ n6_ n7_ n8_ n9_ n10_
        clear hb hbox hg
        refine hK.out _ _ ((pw_cell_below HB.out hw192_0)) (fun hHeld => ?_)
        clear hK K
        refine norm_ (a' := ?_) ?_ ?_
        rotate_left
        · show Act.put _ (some 11) _ = _
          simp only [Act.put, sa_, sz_, ss_, i64_w, i32_w]
          rfl
        refine one_ (i := 15) (N := some 93) (bl 19 196607) rfl rfl (one_of HT_.out (by kernel_rfl)) (by decide) (fun K hK => ?_)
        refine Kd.R_append_rows_step (Kd.int .u8) (w0 := w) w.heap.size (by rfl) (.tmp 84) (.tmp 92) 22 5 (.int .u8 0) 1 rfl Try.underlying22 info5 rfl (by decide) (by omega) v194 y193 ((l0.take ((ji63) : Int).toNat).drop ((ji58) : Int).toNat) _ _ _ (fun _ => True) (fun _ => False) rfl rfl ?aO ?aR (fun _ _ h => h) (fun _ h => h.elim) ?aF ?aB ?aS ?aL ?_
        (case aR => ((rw [← show ((l0.take ((ji63) : Int).toNat).drop ((ji58) : Int).toNat).length = ((ji63).toNat - (ji58).toNat) from (by rw [List.length_drop, List.length_take]; have h_ : ((ji63) : Int) ≤ (l0.length : Int) := of_decide_eq_true (by (with_reducible assumption)); omega)]; repeat ((exact (Kd.C_below HR196.out HB.out))))))
        (case aB => exact HB.out)
        (case aF => exact (fun _ _ => trivial))
        (case aO => exact (by exact HO195.out))
        (case aS => exact (below_size HB.out))
        (case aL => have := LMc62.out; (try (rw [hji63] at this)); (try first | rw [hji58] at this); have hlx_ := (show ((l0.take ((ji63) : Int).toNat).drop ((ji58) : Int).toNat).length = ((ji63).toNat - (ji58).toNat) from (by rw [List.length_drop, List.length_take]; have h_ : ((ji63) : Int) ≤ (l0.length : Int) := of_decide_eq_true (by (with_reducible assumption)); omega)); omega)
        intro v198 w73 ho hb hg hat
        rw [← Ny197.out] at ho
        have n0_ := Aside0.mk (blk_grown (g := gb166) (o := .cells #[.int .i64 0, .slice none 0 0] 35 (0, 0)) (by exact BK166.out) hg (Kd.R_ne HO195.out BK166.out (by decide)))
        have n1_ := Aside0.mk (blk_grown (g := gb167) (o := .cells #[.int .i64 0, .slice none 0 0] 35 (0, 0)) (by exact BK167.out) hg (Kd.R_ne HO195.out BK167.out (by decide)))
        have n2_ := Aside0.mk (blk_grown (g := gb200) (o := .cells #[.int .i64 0, .slice none 0 0] 35 (0, 0)) (by exact BK200.out) hg (Kd.R_ne HO195.out BK200.out (by decide)))
        have n3_ := Aside0.mk (hb)
        have n4_ := Aside0.mk (ho)
        clear BK166
        clear BK167
        clear BK200
        clear HB
        clear HO195
        have BK166 := n0_
        have BK167 := n1_
        have BK200 := n2_
        have HB := n3_
        have HO199 := n4_
        clear n0_ n1_ n2_ n3_ n4_
        clear ho hb hg hat
        obtain ⟨Ao74, co74, eo74⟩ := Kd.R_slice HO199.out
        (subst eo74)
        refine hK.out _ _ ((pw_cell_below HB.out hw192_0)) (fun hHeld => ?_)
        clear hK K
        refine norm_ (a' := ?_) ?_ ?_
        rotate_left
        · show Act.put _ (some 93) _ = _
          simp only [Act.put, sa_, sz_, ss_, i64_w, i32_w]
          rfl
        refine pure_ (i := 16) (N := some 94) (v := ?_) (a' := ?_) (bl 19 262143) rfl rfl (any_of HT_.out (by kernel_rfl)) (fun _ _ _ h => h) (Or.inl ⟨by rfl, ?_⟩) ?_ ?_
        rotate_left
        · intro w'; go_simp; with_reducible rfl
        rotate_left
        · simp only [Act.put, sa_, sz_, ss_, i64_w, i32_w]; rfl
        exact norm_ (by simp only [putAll, Act.put, sa_, sz_, ss_]) (hCont (v194, .slice Ao74 y197.length co74, gb200) _ ⟨hHeld, (by exact HO199.out), (by exact BK166.out), (by exact BK167.out), (by exact BK200.out), GW200.out, GE200.out, NB166_200.out, NB200_166.out, NB167_200.out, NB200_167.out, HB.out⟩)
    · skip
      refine box_step ?hg (N := 11) ?hd (cs := #[.int .i64 0, .slice none 0 0]) (t := 35) ?hr ?_; (case hd => rfl); (case hg => rfl); (case hr => (go_simp; done))
      intro gb200 hg w70 hbox hb
      have n0_ := Aside0.mk (blk_below (g := gb166) (o := .cells #[.int .i64 0, .slice none 0 0] 35 (0, 0)) (by exact BK166.out) hb)
      have n1_ := Aside0.mk (blk_below (g := gb167) (o := .cells #[.int .i64 0, .slice none 0 0] 35 (0, 0)) (by exact BK167.out) hb)
      have n2_ := Aside0.mk (below_step HB.out hb)
      have n3_ := Aside0.mk (hbox)
      have n4_ := Aside0.mk ((by rw [hg]; exact (below_size HB.out) : w.heap.size ≤ gb200))
      have n5_ := Aside0.mk ((by rw [hg]; exact (below_size HB.out) : w.heap.size ≤ gb200))
      have n6_ := Aside0.mk ((by rw [hg]; exact Nat.ne_of_lt (blk_lt (g := gb166) (o := .cells #[.int .i64 0, .slice none 0 0] 35 (0, 0)) (by exact BK166.out)) : gb166 ≠ gb200))
      have n7_ := Aside0.mk ((by rw [hg]; exact Nat.ne_of_gt (blk_lt (g := gb166) (o := .cells #[.int .i64 0, .slice none 0 0] 35 (0, 0)) (by exact BK166.out)) : gb200 ≠ gb166))
      have n8_ := Aside0.mk ((by rw [hg]; exact Nat.ne_of_lt (blk_lt (g := gb167) (o := .cells #[.int .i64 0, .slice none 0 0] 35 (0, 0)) (by exact BK167.out)) : gb167 ≠ gb200))
      have n9_ := Aside0.mk ((by rw [hg]; exact Nat.ne_of_gt (blk_lt (g := gb167) (o := .cells #[.int .i64 0, .slice none 0 0] 35 (0, 0)) (by exact BK167.out)) : gb200 ≠ gb167))
      clear BK166
      clear BK167
      clear HB
      have BK166 := n0_
      have BK167 := n1_
      have HB := n2_
      have BK200 := n3_
      have GW200 := n4_
      have GE200 := n5_
      have NB166_200 := n6_
      have NB200_166 := n7_
      have NB167_200 := n8_
      have NB200_167 := n9_
      clear n0_ n1_ n2_ n3_ n4_ n5_ n6_ n7_ n8_ n9_
      clear hb hbox hg
      refine hK.out _ _ ((pw_cell_below HB.out hw192_0)) (fun hHeld => ?_)
      clear hK K
      refine norm_ (a' := ?_) ?_ ?_
      rotate_left
      · show Act.put _ (some 11) _ = _
        simp only [Act.put, sa_, sz_, ss_, i64_w, i32_w]
        rfl
      refine one_ (i := 6) (N := some 84) (bl 19 163839) rfl rfl (one_of HT_.out (by kernel_rfl)) (by decide) (fun K hK => ?_)
      refine Kd.R_lit_step (Kd.int .u8) _ 5 ?hg (N := 84) ?hd (xs := ([] : List Int)) (inner := []) (ok := fun _ => True) (okp := fun _ => True) ?hr ?hp (fun _ hk => hk) trivial (Below.refl _ _) (Nat.le_refl _) (by simp) ?_; (case hd => rfl); (case hg => rfl); (case hr => (go_simp; done)); (case hp => exact (Reps.none _ _))
      intro v194 w71 ho72 hb hg_ hnew_
      clear hg_ hnew_
      (rw [← Ny193.out] at ho72)
      have n0_ := Aside0.mk (Kd.R_lower ho72 (below_size HB.out))
      have n1_ := Aside0.mk (blk_below (g := gb166) (o := .cells #[.int .i64 0, .slice none 0 0] 35 (0, 0)) (by exact BK166.out) hb)
      have n2_ := Aside0.mk (blk_below (g := gb167) (o := .cells #[.int .i64 0, .slice none 0 0] 35 (0, 0)) (by exact BK167.out) hb)
      have n3_ := Aside0.mk (blk_below (g := gb200) (o := .cells #[.int .i64 0, .slice none 0 0] 35 (0, 0)) (by exact BK200.out) hb)
      have n4_ := Aside0.mk (below_step HB.out hb)
      clear BK166
      clear BK167
      clear BK200
      clear HB
      have HO195 := n0_
      have BK166 := n1_
      have BK167 := n2_
      have BK200 := n3_
      have HB := n4_
      clear n0_ n1_ n2_ n3_ n4_
      clear hb ho72
      refine hK.out _ _ ((pw_cell_below HB.out hw192_0)) (fun hHeld => ?_)
      clear hK K
      refine norm_ (a' := ?_) ?_ ?_
      rotate_left
      · show Act.put _ (some 84) _ = _
        simp only [Act.put, sa_, sz_, ss_, i64_w, i32_w]
        rfl
      refine one_ (i := 15) (N := some 93) (bl 19 196607) rfl rfl (one_of HT_.out (by kernel_rfl)) (by decide) (fun K hK => ?_)
      refine Kd.R_append_rows_step (Kd.int .u8) (w0 := w) w.heap.size (by rfl) (.tmp 84) (.tmp 92) 22 5 (.int .u8 0) 1 rfl Try.underlying22 info5 rfl (by decide) (by omega) v194 y193 ((l0.take ((ji63) : Int).toNat).drop ((ji58) : Int).toNat) _ _ _ (fun _ => True) (fun _ => False) rfl rfl ?aO ?aR (fun _ _ h => h) (fun _ h => h.elim) ?aF ?aB ?aS ?aL ?_
      (case aR => ((rw [← show ((l0.take ((ji63) : Int).toNat).drop ((ji58) : Int).toNat).length = ((ji63).toNat - (ji58).toNat) from (by rw [List.length_drop, List.length_take]; have h_ : ((ji63) : Int) ≤ (l0.length : Int) := of_decide_eq_true (by (with_reducible assumption)); omega)]; repeat ((exact (Kd.C_below HR196.out HB.out))))))
      (case aB => exact HB.out)
      (case aF => exact (fun _ _ => trivial))
      (case aO => exact (by exact HO195.out))
      (case aS => exact (below_size HB.out))
      (case aL => have := LMc62.out; (try (rw [hji63] at this)); (try first | rw [hji58] at this); have hlx_ := (show ((l0.take ((ji63) : Int).toNat).drop ((ji58) : Int).toNat).length = ((ji63).toNat - (ji58).toNat) from (by rw [List.length_drop, List.length_take]; have h_ : ((ji63) : Int) ≤ (l0.length : Int) := of_decide_eq_true (by (with_reducible assumption)); omega)); omega)
      intro v198 w73 ho hb hg hat
      rw [← Ny197.out] at ho
      have n0_ := Aside0.mk (blk_grown (g := gb166) (o := .cells #[.int .i64 0, .slice none 0 0] 35 (0, 0)) (by exact BK166.out) hg (Kd.R_ne HO195.out BK166.out (by decide)))
      have n1_ := Aside0.mk (blk_grown (g := gb167) (o := .cells #[.int .i64 0, .slice none 0 0] 35 (0, 0)) (by exact BK167.out) hg (Kd.R_ne HO195.out BK167.out (by decide)))
      have n2_ := Aside0.mk (blk_grown (g := gb200) (o := .cells #[.int .i64 0, .slice none 0 0] 35 (0, 0)) (by exact BK200.out) hg (Kd.R_ne HO195.out BK200.out (by decide)))
      have n3_ := Aside0.mk (hb)
      have n4_ := Aside0.mk (ho)
      clear BK166
      clear BK167
      clear BK200
      clear HB
      clear HO195
      have BK166 := n0_
      have BK167 := n1_
      have BK200 := n2_
      have HB := n3_
      have HO199 := n4_
      clear n0_ n1_ n2_ n3_ n4_
      clear ho hb hg hat
      obtain ⟨Ao74, co74, eo74⟩ := Kd.R_slice HO199.out
      (subst eo74)
      refine hK.out _ _ ((pw_cell_below HB.out hw192_0)) (fun hHeld => ?_)
      clear hK K
      refine norm_ (a' := ?_) ?_ ?_
      rotate_left
      · show Act.put _ (some 93) _ = _
        simp only [Act.put, sa_, sz_, ss_, i64_w, i32_w]
        rfl
      refine pure_ (i := 16) (N := some 94) (v := ?_) (a' := ?_) (bl 19 262143) rfl rfl (any_of HT_.out (by kernel_rfl)) (fun _ _ _ h => h) (Or.inl ⟨by rfl, ?_⟩) ?_ ?_
      rotate_left
      · intro w'; go_simp; with_reducible rfl
      rotate_left
      · simp only [Act.put, sa_, sz_, ss_, i64_w, i32_w]; rfl
      exact norm_ (by simp only [putAll, Act.put, sa_, sz_, ss_]) (hCont (v194, .slice Ao74 y197.length co74, gb200) _ ⟨hHeld, (by exact HO199.out), (by exact BK166.out), (by exact BK167.out), (by exact BK200.out), GW200.out, GE200.out, NB166_200.out, NB200_166.out, NB167_200.out, NB200_167.out, HB.out⟩)
  rintro ⟨v194, v198, gb200⟩ w75 ⟨hS_, h0_, h1_, h2_, h3_, h4_, h5_, h6_, h7_, h8_, h9_, h10_⟩
  have n0_ : Aside0 (Kd.R (Kd.int .u8) 5 w75 w.heap.size (fun _ => True) v198 y197) := ⟨h0_⟩
  have n1_ : Aside0 (w75.heap[gb166]? = some (.cells #[.int .i64 0, .slice none 0 0] 35 (0, 0))) := ⟨h1_⟩
  have n2_ : Aside0 (w75.heap[gb167]? = some (.cells #[.int .i64 0, .slice none 0 0] 35 (0, 0))) := ⟨h2_⟩
  have n3_ : Aside0 (w75.heap[gb200]? = some (.cells #[.int .i64 0, .slice none 0 0] 35 (0, 0))) := ⟨h3_⟩
  have n4_ : Aside0 (w.heap.size ≤ gb200) := ⟨h4_⟩
  have n5_ : Aside0 (w.heap.size ≤ gb200) := ⟨h5_⟩
  have n6_ : Aside0 (gb166 ≠ gb200) := ⟨h6_⟩
  have n7_ : Aside0 (gb200 ≠ gb166) := ⟨h7_⟩
  have n8_ : Aside0 (gb167 ≠ gb200) := ⟨h8_⟩
  have n9_ : Aside0 (gb200 ≠ gb167) := ⟨h9_⟩
  have n10_ : Aside0 (Below w.heap.size w w75) := ⟨h10_⟩
  clear BK166
  clear BK167
  clear HB
  clear h0_ h1_ h2_ h3_ h4_ h5_ h6_ h7_ h8_ h9_ h10_
  have HO199 := n0_
  have BK166 := n1_
  have BK167 := n2_
  have BK200 := n3_
  have GW200 := n4_
  have GE200 := n5_
  have NB166_200 := n6_
  have NB200_166 := n7_
  have NB167_200 := n8_
  have NB200_167 := n9_
  have HB := n10_
  clear n0_ n1_ n2_ n3_ n4_ n5_ n6_ n7_ n8_ n9_ n10_
  have hHeld : w75.cell? (ad184.add (ji43).toNat) = some (.int .u8 (rd l0 (ji43))) := hS_
  obtain ⟨Ao76, co76, eo76⟩ := Kd.R_slice HO199.out
  (subst eo76)
  refine norm_ (a' := ?_) ?_ ?_
  rotate_left
  · simp only [putAll, Act.put, sa_, sz_, ss_]
    rfl
  refine one_ (i := 18) (N := none) (bl 19 524287) rfl rfl (one_of HT_.out (by kernel_rfl)) (by decide) (fun K hK => ?_)
  have hs77 : w75.cell? ⟨gb200, 0, none⟩ = some (.int .i64 0) := (blk_cell BK200.out 0).trans rfl
  have hfs77 := blk_frozen BK200.out 0
  have hns77_0 := NB166_200.out
  have hns77_1 := NB167_200.out
  have hms77_0 := NB200_166.out
  have hms77_1 := NB200_167.out
  have hs78 : w75.cell? ⟨gb200, 1, none⟩ = some (.slice none 0 0) := (blk_cell BK200.out 1).trans rfl
  have hfs78 := blk_frozen BK200.out 1
  have hns78_0 := NB166_200.out
  have hns78_1 := NB167_200.out
  have hms78_0 := NB200_166.out
  have hms78_1 := NB200_167.out
  refine skip_ (w1 := ?_) (by rfl) rfl ?_ ?_
  rotate_left
  · go_simp
    rfl
  refine hK.out _ _ (((cell_far (p := ⟨gb200, _, none⟩) (by (exact Nat.ne_of_lt (Nat.lt_of_lt_of_le (by have := World.block_lt_of_cell? _ _ hw192_0; (exact this)) GW200.out))) _).trans (((cell_far (p := ⟨gb200, _, none⟩) (by (exact Nat.ne_of_lt (Nat.lt_of_lt_of_le (by have := World.block_lt_of_cell? _ _ hw192_0; (exact this)) GW200.out))) _).trans (hHeld))))) (fun hHeld => ?_)
  clear hK K
  refine done_ (done_of HT_.out (by kernel_rfl)) ?_
  try go_wp2
  have n0_ : Aside0 (Kd.R (Kd.int .u8) 5 ((w75.setCell ⟨gb200, 0, none⟩ (.int .i64 (wrap64 (rd l0 (ji43))))).setCell ⟨gb200, 1, none⟩ (.slice Ao76 y197.length co76)) w.heap.size (fun _ => True) (.slice Ao76 y197.length co76) y197) := ⟨by exact Kd.R_mono (Kd.R_far (p := ⟨gb200, 1, none⟩) (Kd.R_far (p := ⟨gb200, 0, none⟩) (Kd.R_types HO199.out BK200.out (by decide)) (fun _ hk => hk.2) (.int .i64 (wrap64 (rd l0 (ji43))))) (fun _ hk => hk.2) (.slice Ao76 y197.length co76)) (fun _ hk => trivial)⟩
  have n1_ : Aside0 (((w75.setCell ⟨gb200, 0, none⟩ (.int .i64 (wrap64 (rd l0 (ji43))))).setCell ⟨gb200, 1, none⟩ (.slice Ao76 y197.length co76)).heap[gb166]? = some (.cells #[.int .i64 0, .slice none 0 0] 35 (0, 0))) := ⟨by refine blk_far ?_ NB166_200.out _; refine blk_far ?_ NB166_200.out _; exact BK166.out⟩
  have n2_ : Aside0 (((w75.setCell ⟨gb200, 0, none⟩ (.int .i64 (wrap64 (rd l0 (ji43))))).setCell ⟨gb200, 1, none⟩ (.slice Ao76 y197.length co76)).heap[gb167]? = some (.cells #[.int .i64 0, .slice none 0 0] 35 (0, 0))) := ⟨by refine blk_far ?_ NB167_200.out _; refine blk_far ?_ NB167_200.out _; exact BK167.out⟩
  have n3_ : Aside0 (((w75.setCell ⟨gb200, 0, none⟩ (.int .i64 (wrap64 (rd l0 (ji43))))).setCell ⟨gb200, 1, none⟩ (.slice Ao76 y197.length co76)).heap[gb200]? = some (.cells #[.int .i64 (wrap64 (rd l0 (ji43))), .slice Ao76 y197.length co76] 35 (0, 0))) := ⟨by refine blk_put (cs := #[.int .i64 (wrap64 (rd l0 (ji43))), .slice none 0 0]) ?_ 1 _ rfl; refine blk_put (cs := #[.int .i64 0, .slice none 0 0]) ?_ 0 _ rfl; exact BK200.out⟩
  have n4_ : Aside0 (Below w.heap.size w ((w75.setCell ⟨gb200, 0, none⟩ (.int .i64 (wrap64 (rd l0 (ji43))))).setCell ⟨gb200, 1, none⟩ (.slice Ao76 y197.length co76))) := ⟨by repeat (with_reducible first | exact HB.out | refine below_set ?_ GE200.out)⟩
  (try clear HO199)
  (try clear BK166)
  (try clear BK167)
  (try clear BK200)
  (try clear HB)
  generalize ((w75.setCell ⟨gb200, 0, none⟩ (.int .i64 (wrap64 (rd l0 (ji43))))).setCell ⟨gb200, 1, none⟩ (.slice Ao76 y197.length co76)) = w79 at n0_ n1_ n2_ n3_ n4_ ⊢
  have HO199 := n0_
  have BK166 := n1_
  have BK167 := n2_
  have BK200 := n3_
  have HB := n4_
  clear n0_ n1_ n2_ n3_ n4_
  have n0_ := Aside0.mk (Kd.R_drew HO199.out)
  have n1_ := Aside0.mk (blk_drew BK166.out)
  have n2_ := Aside0.mk (blk_drew BK167.out)
  have n3_ := Aside0.mk (blk_drew BK200.out)
  have n4_ := Aside0.mk (below_drew1 HB.out)
  clear HO199
  clear BK166
  clear BK167
  clear BK200
  clear HB
  have HO199 := n0_
  have BK166 := n1_
  have BK167 := n2_
  have BK200 := n3_
  have HB := n4_
  clear n0_ n1_ n2_ n3_ n4_
  obtain ⟨i081, hi081, _, hsz81, _⟩ := info_parts info5
  obtain ⟨A81, hcut81, hA81, hC81⟩ := print_mid_of (P := Try.prog) (Value.int .u8) 0 22 5 .i64 .i64 Try.underlying22 hi081 hsz81 (some ad184) c0 l0 (ji63) (wrap64 ((wrap64 (a1 + 36)) + x9_2)) (of_decide_eq_true (by (with_reducible assumption))) (by (omega)) (of_decide_eq_true (by (with_reducible assumption))) HC0.out
  have HR204 := Aside0.mk (Kd.C_of_reads (h1 := fun _ => rfl) (hA81 _ (Kd.reads_of_C HR0.out)))
  have HC204 := Aside0.mk hC81
  clear hA81 hC81 hi081 hsz81
  refine start_ (n := 21) (S := fun w' => w'.cell? ⟨gb200, 0, none⟩ = some (.int .i64 (wrap64 (rd l0 (ji43)))) ∧ w'.cell? ⟨gb200, 1, none⟩ = some (.slice Ao76 y197.length co76)) (ds := []) (bl 21 0) (by kernel_rfl) rfl rfl ⟨(blk_cell BK200.out 0).trans rfl, (blk_cell BK200.out 1).trans rfl⟩ (fun hHeld => ?_); refine with_tabW notaryref46_Read.tab20 notaryref46_Read.bits20 (fun HT_ HW_ => ?_)
  generalize w79.drew = w80 at HO199 BK166 BK167 BK200 HB HR204 hHeld ⊢
  refine pure_ (i := 2) (N := some 97) (v := ?_) (a' := ?_) (bl 21 4) rfl rfl (any_of HT_.out (by kernel_rfl)) (fun _ _ _ h => h) (Or.inl ⟨by rfl, ?_⟩) ?_ ?_
  rotate_left
  · intro w'; go_simp; with_reducible rfl
  rotate_left
  · simp only [Act.put, sa_, sz_, ss_, i64_w, i32_w]; rfl
  refine pure_ (i := 3) (N := some 98) (v := ?_) (a' := ?_) (bl 21 12) rfl rfl (any_of HT_.out (by kernel_rfl)) (fun _ _ _ h => h) (Or.inl ⟨by rfl, ?_⟩) ?_ ?_
  rotate_left
  · intro w'; go_simp; with_reducible rfl
  rotate_left
  · simp only [Act.put, sa_, sz_, ss_, i64_w, i32_w]; rfl
  refine pure_ (i := 4) (N := some 99) (v := ?_) (a' := ?_) (bl 21 28) rfl rfl (any_of HT_.out (by kernel_rfl)) (fun _ _ _ h => h) (Or.inl ⟨by rfl, ?_⟩) ?_ ?_
  rotate_left
  · intro w'; go_simp; with_reducible rfl
  rotate_left
  · simp only [Act.put, sa_, sz_, ss_, i64_w, i32_w]; rfl
  refine pure_ (i := 5) (N := some 100) (v := ?_) (a' := ?_) (bl 21 60) rfl rfl (any_of HT_.out (by kernel_rfl)) (fun _ _ _ h => h) (Or.inl ⟨by rfl, ?_⟩) ?_ ?_
  rotate_left
  · intro w'; go_simp; with_reducible rfl
  rotate_left
  · simp only [Act.put, sa_, sz_, ss_, i64_w, i32_w]; rfl
  refine pure_ (i := 6) (N := some 101) (v := ?_) (a' := ?_) (bl 21 124) rfl rfl (any_of HT_.out (by kernel_rfl)) (fun _ _ _ h => h) (Or.inl ⟨by rfl, ?_⟩) ?_ ?_
  rotate_left
  · intro w'; go_simp; with_reducible rfl
  rotate_left
  · simp only [Act.put, sa_, sz_, ss_, i64_w, i32_w]; rfl
  refine pure_ (i := 7) (N := some 102) (v := ?_) (a' := ?_) (bl 21 252) rfl rfl (any_of HT_.out (by kernel_rfl)) (fun _ _ _ h => h) (Or.inl ⟨by rfl, ?_⟩) ?_ ?_
  rotate_left
  · intro w'; go_simp; with_reducible rfl
  rotate_left
  · simp only [Act.put, sa_, sz_, ss_, i64_w, i32_w]; rfl
  refine pure_ (i := 8) (N := some 103) (v := ?_) (a' := ?_) (bl 21 508) rfl rfl (any_of HT_.out (by kernel_rfl)) (fun _ _ _ h => h) (Or.inl ⟨by rfl, ?_⟩) ?_ ?_
  rotate_left
  · intro w'; go_simp; with_reducible rfl
  rotate_left
  · simp only [Act.put, sa_, sz_, ss_, i64_w, i32_w]; rfl
  refine pure_ (i := 9) (N := some 104) (v := ?_) (a' := ?_) (bl 21 1020) rfl rfl (any_of HT_.out (by kernel_rfl)) (fun _ _ _ h => h) (Or.inl ⟨by rfl, ?_⟩) ?_ ?_
  rotate_left
  · intro w'; go_simp; with_reducible rfl
  rotate_left
  · simp only [Act.put, sa_, sz_, ss_, i64_w, i32_w]; rfl
  refine pure_ (i := 10) (N := some 105) (v := ?_) (a' := ?_) (bl 21 2044) rfl rfl (any_of HT_.out (by kernel_rfl)) (fun _ _ _ h => h) (Or.inl ⟨by rfl, ?_⟩) ?_ ?_
  rotate_left
  · intro w'; go_simp; with_reducible rfl
  rotate_left
  · simp only [Act.put, sa_, sz_, ss_, i64_w, i32_w]; rfl
  refine pure_ (i := 11) (N := some 106) (v := ?_) (a' := ?_) (bl 21 4092) rfl rfl (any_of HT_.out (by kernel_rfl)) (fun _ _ _ h => h) (Or.inl ⟨by rfl, ?_⟩) ?_ ?_
  rotate_left
  · intro w'; go_simp; with_reducible rfl
  rotate_left
  · simp only [Act.put, sa_, sz_, ss_, i64_w, i32_w]; rfl
  refine pure_ (i := 13) (N := some 108) (v := ?_) (a' := ?_) (bl 21 12284) rfl rfl (any_of HT_.out (by kernel_rfl)) (fun _ _ _ h => h) (Or.inl ⟨by rfl, ?_⟩) ?_ ?_
  rotate_left
  · intro w'; go_simp; with_reducible rfl
  rotate_left
  · simp only [Act.put, sa_, sz_, ss_, i64_w, i32_w]; rfl
  refine pure_ (i := 14) (N := some 109) (v := ?_) (a' := ?_) (bl 21 28668) rfl rfl (any_of HT_.out (by kernel_rfl)) (fun _ _ _ h => h) (Or.inl ⟨by rfl, ?_⟩) ?_ ?_
  rotate_left
  · intro w'; go_simp; with_reducible rfl
  rotate_left
  · simp only [Act.put, sa_, sz_, ss_, i64_w, i32_w]; rfl
  refine pure_ (i := 15) (N := some 110) (v := ?_) (a' := ?_) (bl 21 61436) rfl rfl (any_of HT_.out (by kernel_rfl)) (fun _ _ _ h => h) (Or.inl ⟨by rfl, ?_⟩) ?_ ?_
  rotate_left
  · intro w'; go_simp; with_reducible rfl
  rotate_left
  · simp only [Act.put, sa_, sz_, ss_, i64_w, i32_w]; rfl
  refine pure_ (i := 16) (N := some 111) (v := ?_) (a' := ?_) (bl 21 126972) rfl rfl (any_of HT_.out (by kernel_rfl)) (fun _ _ _ h => h) (Or.inl ⟨by rfl, ?_⟩) ?_ ?_
  rotate_left
  · intro w'; go_simp; with_reducible rfl
  rotate_left
  · simp only [Act.put, sa_, sz_, ss_, i64_w, i32_w]; rfl
  refine take_ (i := 0) (N := some 95) (v := ?_) (a' := ?_) (bl 21 126973) rfl rfl (take_ofW HT_.out HW_.out (by kernel_rfl)) (fun _ _ _ h => h) (Or.inl ⟨by rfl, ?_⟩) hHeld ?_ ?_
  rotate_left
  · rintro w' ⟨s0, s1⟩
    go_simp
    with_reducible rfl
  rotate_left
  · simp only [Act.put, sa_, sz_, ss_, i64_w, i32_w]; rfl
  refine one_ (i := 1) (N := some 96) (bl 21 126975) rfl rfl (one_of HT_.out (by kernel_rfl)) (by decide) (fun K hK => ?_)
  refine Kd.R_lit_step (Kd.int .u8) _ 5 ?hg (N := 96) ?hd (xs := ([] : List Int)) (inner := []) (ok := fun _ => True) (okp := fun _ => True) ?hr ?hp (fun _ hk => hk) trivial (Below.refl _ _) (Nat.le_refl _) (by simp) ?_; (case hd => rfl); (case hg => rfl); (case hr => (go_simp; done)); (case hp => exact (Reps.none _ _))
  intro v202 w82 ho83 hb hg_ hnew_
  clear hg_ hnew_
  (rw [← Ny201.out] at ho83)
  have n0_ := Aside0.mk (Kd.R_elder' (by exact HO199.out) (Kd.R_base ho83) hb)
  have n1_ := Aside0.mk (Kd.R_lower (Kd.R_new' ho83 (Kd.R_lt (by exact HO199.out))) (below_size HB.out))
  have n2_ := Aside0.mk (blk_below (g := gb166) (o := .cells #[.int .i64 0, .slice none 0 0] 35 (0, 0)) (by exact BK166.out) hb)
  have n3_ := Aside0.mk (blk_below (g := gb167) (o := .cells #[.int .i64 0, .slice none 0 0] 35 (0, 0)) (by exact BK167.out) hb)
  have n4_ := Aside0.mk (blk_below (g := gb200) (o := .cells #[.int .i64 (wrap64 (rd l0 (ji43))), .slice Ao76 y197.length co76] 35 (0, 0)) (by exact BK200.out) hb)
  have n5_ := Aside0.mk (below_step HB.out hb)
  clear HO199
  clear BK166
  clear BK167
  clear BK200
  clear HB
  have HO199 := n0_
  have HO203 := n1_
  have BK166 := n2_
  have BK167 := n3_
  have BK200 := n4_
  have HB := n5_
  clear n0_ n1_ n2_ n3_ n4_ n5_
  clear hb ho83
  refine hK.out _ _ ⟨(blk_cell BK200.out 0).trans rfl, (blk_cell BK200.out 1).trans rfl⟩ (fun hHeld => ?_)
  clear hK K
  refine norm_ (a' := ?_) ?_ ?_
  rotate_left
  · show Act.put _ (some 96) _ = _
    simp only [Act.put, sa_, sz_, ss_, i64_w, i32_w]
    rfl
  refine one_ (i := 12) (N := some 107) (bl 21 131071) rfl rfl (one_of HT_.out (by kernel_rfl)) (by decide) (fun K hK => ?_)
  refine Kd.R_append_rows_step (Kd.int .u8) (w0 := w) w.heap.size (by rfl) (.tmp 96) (.tmp 106) 22 5 (.int .u8 0) 1 rfl Try.underlying22 info5 rfl (by decide) (by omega) v202 y201 ((l0.take ((wrap64 ((wrap64 (a1 + 36)) + x9_2)) : Int).toNat).drop ((ji63) : Int).toNat) _ _ _ (fun k_ => some k_ ≠ (.slice Ao76 y197.length co76 : Value).ownBlock) (fun _ => False) rfl rfl ?aO ?aR (fun _ _ h => h) (fun _ h => h.elim) ?aF ?aB ?aS ?aL ?_
  (case aR => ((rw [← show ((l0.take ((wrap64 ((wrap64 (a1 + 36)) + x9_2)) : Int).toNat).drop ((ji63) : Int).toNat).length = ((wrap64 ((wrap64 (a1 + 36)) + x9_2)).toNat - (ji63).toNat) from (by rw [List.length_drop, List.length_take]; have h_ : ((wrap64 ((wrap64 (a1 + 36)) + x9_2)) : Int) ≤ (l0.length : Int) := of_decide_eq_true (by (with_reducible assumption)); omega)]; repeat ((exact (Kd.C_below HR204.out HB.out))))))
  (case aB => exact HB.out)
  (case aF => exact (fun k_ hk => Kd.fresh' (Kd.R_lt (by exact HO199.out)) k_ hk))
  (case aO => exact (by exact Kd.R_mono HO203.out (fun _ hk => hk.2)))
  (case aS => exact (below_size HB.out))
  (case aL => have := LMc67.out; have hlx_ := (show ((l0.take ((wrap64 ((wrap64 (a1 + 36)) + x9_2)) : Int).toNat).drop ((ji63) : Int).toNat).length = ((wrap64 ((wrap64 (a1 + 36)) + x9_2)).toNat - (ji63).toNat) from (by rw [List.length_drop, List.length_take]; have h_ : ((wrap64 ((wrap64 (a1 + 36)) + x9_2)) : Int) ≤ (l0.length : Int) := of_decide_eq_true (by (with_reducible assumption)); omega)); omega)
  intro v206 w84 ho hb hg hat
  rw [← Ny205.out] at ho
  have n0_ := Aside0.mk (blk_grown (g := gb166) (o := .cells #[.int .i64 0, .slice none 0 0] 35 (0, 0)) (by exact BK166.out) hg (Kd.R_ne HO203.out BK166.out (by decide)))
  have n1_ := Aside0.mk (blk_grown (g := gb167) (o := .cells #[.int .i64 0, .slice none 0 0] 35 (0, 0)) (by exact BK167.out) hg (Kd.R_ne HO203.out BK167.out (by decide)))
  have n2_ := Aside0.mk (Kd.R_after (ok := (fun _ => True)) (by exact HO199.out) hg hat)
  have n3_ := Aside0.mk (blk_grown (g := gb200) (o := .cells #[.int .i64 (wrap64 (rd l0 (ji43))), .slice Ao76 y197.length co76] 35 (0, 0)) (by exact BK200.out) hg (Kd.R_ne HO203.out BK200.out (by decide)))
  have n4_ := Aside0.mk (hb)
  have n5_ := Aside0.mk (ho)
  clear BK166
  clear BK167
  clear HO199
  clear BK200
  clear HB
  clear HO203
  have BK166 := n0_
  have BK167 := n1_
  have HO199 := n2_
  have BK200 := n3_
  have HB := n4_
  have HO207 := n5_
  clear n0_ n1_ n2_ n3_ n4_ n5_
  clear ho hb hg hat
  refine hK.out _ _ ⟨(blk_cell BK200.out 0).trans rfl, (blk_cell BK200.out 1).trans rfl⟩ (fun hHeld => ?_)
  clear hK K
  refine norm_ (a' := ?_) ?_ ?_
  rotate_left
  · show Act.put _ (some 107) _ = _
    simp only [Act.put, sa_, sz_, ss_, i64_w, i32_w]
    rfl
  refine one_ (i := 17) (N := none) (bl 21 262143) rfl rfl (one_of HT_.out (by kernel_rfl)) (by decide) (fun K hK => ?_)
  have hs85 : w84.cell? ⟨gb166, 0, none⟩ = some (.int .i64 0) := (blk_cell BK166.out 0).trans rfl
  have hfs85 := blk_frozen BK166.out 0
  have hns85_1 := NB167_166.out
  have hns85_2 := NB200_166.out
  have hms85_1 := NB166_167.out
  have hms85_2 := NB166_200.out
  have hs86 : w84.cell? ⟨gb166, 1, none⟩ = some (.slice none 0 0) := (blk_cell BK166.out 1).trans rfl
  have hfs86 := blk_frozen BK166.out 1
  have hns86_1 := NB167_166.out
  have hns86_2 := NB200_166.out
  have hms86_1 := NB166_167.out
  have hms86_2 := NB166_200.out
  refine skip_ (w1 := ?_) (by rfl) rfl ?_ ?_
  rotate_left
  · go_simp
    rfl
  refine hK.out _ _ ⟨((cell_far (p := ⟨gb166, _, none⟩) NB200_166.out _).trans (((cell_far (p := ⟨gb166, _, none⟩) NB200_166.out _).trans (hHeld.1)))), ((cell_far (p := ⟨gb166, _, none⟩) NB200_166.out _).trans (((cell_far (p := ⟨gb166, _, none⟩) NB200_166.out _).trans (hHeld.2))))⟩ (fun hHeld => ?_)
  clear hK K
  refine pure_ (i := 18) (N := some 5) (v := ?_) (a' := ?_) (bl 21 524287) rfl rfl (any_of HT_.out (by kernel_rfl)) (fun _ _ _ h => h) (Or.inl ⟨by rfl, ?_⟩) ?_ ?_
  rotate_left
  · intro w'; go_simp; with_reducible rfl
  rotate_left
  · simp only [Act.put, sa_, sz_, ss_, i64_w, i32_w]; rfl
  refine pure_ (i := 19) (N := some 6) (v := ?_) (a' := ?_) (bl 21 1048575) rfl rfl (any_of HT_.out (by kernel_rfl)) (fun _ _ _ h => h) (Or.inl ⟨by rfl, ?_⟩) ?_ ?_
  rotate_left
  · intro w'; go_simp; with_reducible rfl
  rotate_left
  · simp only [Act.put, sa_, sz_, ss_, i64_w, i32_w]; rfl
  refine pure_ (i := 20) (N := some 7) (v := ?_) (a' := ?_) (bl 21 2097151) rfl rfl (any_of HT_.out (by kernel_rfl)) (fun _ _ _ h => h) (Or.inl ⟨by rfl, ?_⟩) ?_ ?_
  rotate_left
  · intro w'; go_simp; with_reducible rfl
  rotate_left
  · simp only [Act.put, sa_, sz_, ss_, i64_w, i32_w]; rfl
  refine done_ (done_of HT_.out (by kernel_rfl)) ?_
  try go_wp2
  refine bodyPost_ret (results_list (rs := [.cell 4 35, .tmp 5, .tmp 6, .tmp 7]) rfl (by simp) (.cell gb166 35 #[.int .i64 (wrap64 (rd l0 (ji43))), .slice Ao76 y197.length co76] (0, 0) _ rfl (by refine blk_put (cs := #[.int .i64 (wrap64 (rd l0 (ji43))), .slice none 0 0]) ?_ 1 _ rfl; refine blk_put (cs := #[.int .i64 0, .slice none 0 0]) ?_ 0 _ rfl; exact BK166.out) Try.underlying35 rfl (by kernel_rfl) (.tmp (.tmp (.tmp .nil))))) rfl ?_
  exact ⟨_, _, by (rfl), by exact Kd.R_mono (Kd.R_far (p := ⟨gb166, 1, none⟩) (Kd.R_far (p := ⟨gb166, 0, none⟩) (Kd.R_types HO199.out BK166.out (by decide)) (fun _ hk => hk.2) (.int .i64 (wrap64 (rd l0 (ji43))))) (fun _ hk => hk.2) (.slice Ao76 y197.length co76)) (fun _ hk => hk.1.2), by exact Kd.R_mono (Kd.R_far (p := ⟨gb166, 1, none⟩) (Kd.R_far (p := ⟨gb166, 0, none⟩) (Kd.R_types HO207.out BK166.out (by decide)) (fun _ hk => hk.2) (.int .i64 (wrap64 (rd l0 (ji43))))) (fun _ hk => hk.2) (.slice Ao76 y197.length co76)) (fun _ hk => hk.1), by repeat (with_reducible first | exact HB.out | refine below_set ?_ GE166.out)⟩
end Go.Proofs.Ytogjnipojakfjaa.PJv
