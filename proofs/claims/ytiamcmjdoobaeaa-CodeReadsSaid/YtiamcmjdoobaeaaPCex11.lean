-- SLIM: a printed text of which the unused ways are cut off
-- PRINTED by print.py (a twelfth state) out of the translation. Not trusted: Lean checks it.
import Derived.Test.YtiamcmjdoobaeaaPCex0
import Derived.Test.YtiamcmjdoobaeaaPCex6
import Derived.Test.YtiamcmjdoobaeaaPCex8
import Derived.Test.YtiamcmjdoobaeaaPCex9
import Derived.Test.YtiamcmjdoobaeaaPCex10
namespace Go.Proofs.Ytiamcmjdoobaeaa.PCe
open Go.RowKit Go.Proofs.YtiamcmjdoobaeaaW.PrintWords Go.Proofs.YtiamcmjdoobaeaaW.PrintLast Go.Proofs.YtiamcmjdoobaeaaW.PrintMore
attribute [local go_sem] max2_int min2_int max_two min_two max_three min_three max_four min_four   -- for this text's walks alone
set_option linter.unusedVariables false
set_option linter.unusedSimpArgs false

/-! ### notaryref34_Same: function 45 -/
def notaryref34_Same.f (k : Nat) (a0_0 : Int) (a0_1 : Bool) (l0_2 : List Int) (l0_3 : List Int) (a0_4 : Int) (a0_5 : Int) (a0_6 : ByteArray) (l0_7 : List (S25)) (a0_8 : Int) (a0_9 : Int) (a1_0 : Int) (a1_1 : Bool) (l1_2 : List Int) (l1_3 : List Int) (a1_4 : Int) (a1_5 : Int) (a1_6 : ByteArray) (l1_7 : List (S25)) (a1_8 : Int) (a1_9 : Int) : Option (Bool) := if a0_0 = a1_0 then (if (a0_1 == a1_1) = true then ((notaryref06_Way.f k l0_2 l1_2).bind fun t148 => (if t148 = true then ((notaryref06_Way.f k l0_3 l1_3).bind fun t149 => (if t149 = true then ((notaryref06_Same.f k a0_4 a0_5 a0_6 l0_7 a0_8 a0_9 a1_4 a1_5 a1_6 l1_7 a1_8 a1_9).bind fun t150 => (some t150)) else (some false))) else (some false))) else (some false)) else (some false)
set_option maxHeartbeats 8000000 in
set_option maxRecDepth 100000 in
theorem notaryref34_Same.calls (k : Nat) (a0_0 : Int) (a0_1 : Bool) (A0_2 : Option Addr) (c0_2 : Nat) (l0_2 : List Int) (A0_3 : Option Addr) (c0_3 : Nat) (l0_3 : List Int) (a0_4 : Int) (a0_5 : Int) (a0_6 : ByteArray) (A0_7 : Option Addr) (c0_7 : Nat) (l0_7 : List (S25)) (a0_8 : Int) (a0_9 : Int) (a1_0 : Int) (a1_1 : Bool) (A1_2 : Option Addr) (c1_2 : Nat) (l1_2 : List Int) (A1_3 : Option Addr) (c1_3 : Nat) (l1_3 : List Int) (a1_4 : Int) (a1_5 : Int) (a1_6 : ByteArray) (A1_7 : Option Addr) (c1_7 : Nat) (l1_7 : List (S25)) (a1_8 : Int) (a1_9 : Int) (r : Bool) (w : World) (hr0_2 : Kd.C (Kd.int .i64) w A0_2 l0_2.length l0_2) (hc0_2 : l0_2.length ≤ c0_2) (hr0_3 : Kd.C (Kd.int .i64) w A0_3 l0_3.length l0_3) (hc0_3 : l0_3.length ≤ c0_3) (hr0_7 : Kd.C k25 w A0_7 l0_7.length l0_7) (hc0_7 : l0_7.length ≤ c0_7) (hr1_2 : Kd.C (Kd.int .i64) w A1_2 l1_2.length l1_2) (hc1_2 : l1_2.length ≤ c1_2) (hr1_3 : Kd.C (Kd.int .i64) w A1_3 l1_3.length l1_3) (hc1_3 : l1_3.length ≤ c1_3) (hr1_7 : Kd.C k25 w A1_7 l1_7.length l1_7) (hc1_7 : l1_7.length ≤ c1_7) (h : notaryref34_Same.f k a0_0 a0_1 l0_2 l0_3 a0_4 a0_5 a0_6 l0_7 a0_8 a0_9 a1_0 a1_1 l1_2 l1_3 a1_4 a1_5 a1_6 l1_7 a1_8 a1_9 = some r) :
    Calls Try.prog 45 #[.agg #[.int .i64 a0_0, .bool a0_1, .slice A0_2 l0_2.length c0_2, .slice A0_3 l0_3.length c0_3, .int .i64 a0_4, .int .i64 a0_5, .string a0_6, .slice A0_7 l0_7.length c0_7, .int .i64 a0_8, .int .i64 a0_9], .agg #[.int .i64 a1_0, .bool a1_1, .slice A1_2 l1_2.length c1_2, .slice A1_3 l1_3.length c1_3, .int .i64 a1_4, .int .i64 a1_5, .string a1_6, .slice A1_7 l1_7.length c1_7, .int .i64 a1_8, .int .i64 a1_9]] w fun e w' => e = .returned (.bool r) ∧ Below w.heap.size w w' := by
  have hu39 := Try.underlying39
  have hu25 := Try.underlying25
  have HR0_2 := Aside0.mk hr0_2
  have HC0_2 := Aside0.mk hc0_2
  clear hr0_2 hc0_2
  have HR0_3 := Aside0.mk hr0_3
  have HC0_3 := Aside0.mk hc0_3
  clear hr0_3 hc0_3
  have HR0_7 := Aside0.mk hr0_7
  have HC0_7 := Aside0.mk hc0_7
  clear hr0_7 hc0_7
  have HR1_2 := Aside0.mk hr1_2
  have HC1_2 := Aside0.mk hc1_2
  clear hr1_2 hc1_2
  have HR1_3 := Aside0.mk hr1_3
  have HC1_3 := Aside0.mk hc1_3
  clear hr1_3 hc1_3
  have HR1_7 := Aside0.mk hr1_7
  have HC1_7 := Aside0.mk hc1_7
  clear hr1_7 hc1_7
  have HB := Aside0.mk (Below.refl w.heap.size w)
  have H : (if a0_0 = a1_0 then (if (a0_1 == a1_1) = true then ((notaryref06_Way.f k l0_2 l1_2).bind fun t148 => (if t148 = true then ((notaryref06_Way.f k l0_3 l1_3).bind fun t149 => (if t149 = true then ((notaryref06_Same.f k a0_4 a0_5 a0_6 l0_7 a0_8 a0_9 a1_4 a1_5 a1_6 l1_7 a1_8 a1_9).bind fun t150 => (some t150)) else (some false))) else (some false))) else (some false)) else (some false)) = some r := h
  clear h
  by_cases c3 : a0_0 = a1_0
  rotate_left
  · rw [if_neg c3] at H
    have c3b0 : (a0_0 == a1_0) = false := beq_eq_false_iff_ne.mpr c3
    have c3b1 : (a0_0 != a1_0) = true := bne_iff_ne.mpr c3
    obtain rfl := Option.some.inj H
    go_enter Try.func45, Try.ntmps45
    go_wp2_with (first | ((with_reducible refine gate_dst (N := 2) rfl ?_); refine box_event ?hg (N := 2) ?hd (cs := #[.int .i64 a0_0, .bool a0_1, .slice A0_2 l0_2.length c0_2, .slice A0_3 l0_3.length c0_3, .int .i64 a0_4, .int .i64 a0_5, .string a0_6, .slice A0_7 l0_7.length c0_7, .int .i64 a0_8, .int .i64 a0_9]) (t := 39) ?hr ?_; (case hd => rfl); (case hg => rfl); (case hr => (go_simp; done)); intro gb146 hg w31 hbox hb; have n0_ := Aside0.mk (below_step HB.out hb); have n1_ := Aside0.mk (hbox); have n2_ := Aside0.mk ((by rw [hg]; exact (below_size HB.out) : w.heap.size ≤ gb146)); have n3_ := Aside0.mk ((by rw [hg]; exact (below_size HB.out) : w.heap.size ≤ gb146)); clear HB; have HB := n0_; have BK146 := n1_; have GW146 := n2_; have GE146 := n3_; clear n0_ n1_ n2_ n3_; clear hb hbox hg) | ((with_reducible refine gate_dst (N := 3) rfl ?_); refine box_event ?hg (N := 3) ?hd (cs := #[.int .i64 a1_0, .bool a1_1, .slice A1_2 l1_2.length c1_2, .slice A1_3 l1_3.length c1_3, .int .i64 a1_4, .int .i64 a1_5, .string a1_6, .slice A1_7 l1_7.length c1_7, .int .i64 a1_8, .int .i64 a1_9]) (t := 39) ?hr ?_; (case hd => rfl); (case hg => rfl); (case hr => (go_simp; done)); intro gb147 hg w32 hbox hb; have n0_ := Aside0.mk (blk_below (g := gb146) (o := .cells #[.int .i64 a0_0, .bool a0_1, .slice A0_2 l0_2.length c0_2, .slice A0_3 l0_3.length c0_3, .int .i64 a0_4, .int .i64 a0_5, .string a0_6, .slice A0_7 l0_7.length c0_7, .int .i64 a0_8, .int .i64 a0_9] 39 (0, 0)) (by exact BK146.out) hb); have n1_ := Aside0.mk (below_step HB.out hb); have n2_ := Aside0.mk (hbox); have n3_ := Aside0.mk ((by rw [hg]; exact (below_size HB.out) : w.heap.size ≤ gb147)); have n4_ := Aside0.mk ((by rw [hg]; exact (below_size HB.out) : w.heap.size ≤ gb147)); have n5_ := Aside0.mk ((by rw [hg]; exact Nat.ne_of_lt (blk_lt (g := gb146) (o := .cells #[.int .i64 a0_0, .bool a0_1, .slice A0_2 l0_2.length c0_2, .slice A0_3 l0_3.length c0_3, .int .i64 a0_4, .int .i64 a0_5, .string a0_6, .slice A0_7 l0_7.length c0_7, .int .i64 a0_8, .int .i64 a0_9] 39 (0, 0)) (by exact BK146.out)) : gb146 ≠ gb147)); have n6_ := Aside0.mk ((by rw [hg]; exact Nat.ne_of_gt (blk_lt (g := gb146) (o := .cells #[.int .i64 a0_0, .bool a0_1, .slice A0_2 l0_2.length c0_2, .slice A0_3 l0_3.length c0_3, .int .i64 a0_4, .int .i64 a0_5, .string a0_6, .slice A0_7 l0_7.length c0_7, .int .i64 a0_8, .int .i64 a0_9] 39 (0, 0)) (by exact BK146.out)) : gb147 ≠ gb146)); clear BK146; clear HB; have BK146 := n0_; have HB := n1_; have BK147 := n2_; have GW147 := n3_; have GE147 := n4_; have NB146_147 := n5_; have NB147_146 := n6_; clear n0_ n1_ n2_ n3_ n4_ n5_ n6_; clear hb hbox hg; have hnb33 := NB146_147.out; have hnc33 := NB147_146.out; have hcz34_0 : w32.cell? ⟨gb146, 0, none⟩ = some (.int .i64 a0_0) := (blk_cell BK146.out 0).trans rfl; have hcz34_1 : w32.cell? ⟨gb146, 1, none⟩ = some (.bool a0_1) := (blk_cell BK146.out 1).trans rfl; have hcz34_2 : w32.cell? ⟨gb146, 2, none⟩ = some (.slice A0_2 l0_2.length c0_2) := (blk_cell BK146.out 2).trans rfl; have hcz34_3 : w32.cell? ⟨gb146, 3, none⟩ = some (.slice A0_3 l0_3.length c0_3) := (blk_cell BK146.out 3).trans rfl; have hcz34_4 : w32.cell? ⟨gb146, 4, none⟩ = some (.int .i64 a0_4) := (blk_cell BK146.out 4).trans rfl; have hcz34_5 : w32.cell? ⟨gb146, 5, none⟩ = some (.int .i64 a0_5) := (blk_cell BK146.out 5).trans rfl; have hcz34_6 : w32.cell? ⟨gb146, 6, none⟩ = some (.string a0_6) := (blk_cell BK146.out 6).trans rfl; have hcz34_7 : w32.cell? ⟨gb146, 7, none⟩ = some (.slice A0_7 l0_7.length c0_7) := (blk_cell BK146.out 7).trans rfl; have hcz34_8 : w32.cell? ⟨gb146, 8, none⟩ = some (.int .i64 a0_8) := (blk_cell BK146.out 8).trans rfl; have hcz34_9 : w32.cell? ⟨gb146, 9, none⟩ = some (.int .i64 a0_9) := (blk_cell BK146.out 9).trans rfl; have hfz34_0 := blk_frozen BK146.out 0; have hfz34_1 := blk_frozen BK146.out 1; have hfz34_2 := blk_frozen BK146.out 2; have hfz34_3 := blk_frozen BK146.out 3; have hfz34_4 := blk_frozen BK146.out 4; have hfz34_5 := blk_frozen BK146.out 5; have hfz34_6 := blk_frozen BK146.out 6; have hfz34_7 := blk_frozen BK146.out 7; have hfz34_8 := blk_frozen BK146.out 8; have hfz34_9 := blk_frozen BK146.out 9; have hcz35_0 : w32.cell? ⟨gb147, 0, none⟩ = some (.int .i64 a1_0) := (blk_cell BK147.out 0).trans rfl; have hcz35_1 : w32.cell? ⟨gb147, 1, none⟩ = some (.bool a1_1) := (blk_cell BK147.out 1).trans rfl; have hcz35_2 : w32.cell? ⟨gb147, 2, none⟩ = some (.slice A1_2 l1_2.length c1_2) := (blk_cell BK147.out 2).trans rfl; have hcz35_3 : w32.cell? ⟨gb147, 3, none⟩ = some (.slice A1_3 l1_3.length c1_3) := (blk_cell BK147.out 3).trans rfl; have hcz35_4 : w32.cell? ⟨gb147, 4, none⟩ = some (.int .i64 a1_4) := (blk_cell BK147.out 4).trans rfl; have hcz35_5 : w32.cell? ⟨gb147, 5, none⟩ = some (.int .i64 a1_5) := (blk_cell BK147.out 5).trans rfl; have hcz35_6 : w32.cell? ⟨gb147, 6, none⟩ = some (.string a1_6) := (blk_cell BK147.out 6).trans rfl; have hcz35_7 : w32.cell? ⟨gb147, 7, none⟩ = some (.slice A1_7 l1_7.length c1_7) := (blk_cell BK147.out 7).trans rfl; have hcz35_8 : w32.cell? ⟨gb147, 8, none⟩ = some (.int .i64 a1_8) := (blk_cell BK147.out 8).trans rfl; have hcz35_9 : w32.cell? ⟨gb147, 9, none⟩ = some (.int .i64 a1_9) := (blk_cell BK147.out 9).trans rfl; have hfz35_0 := blk_frozen BK147.out 0; have hfz35_1 := blk_frozen BK147.out 1; have hfz35_2 := blk_frozen BK147.out 2; have hfz35_3 := blk_frozen BK147.out 3; have hfz35_4 := blk_frozen BK147.out 4; have hfz35_5 := blk_frozen BK147.out 5; have hfz35_6 := blk_frozen BK147.out 6; have hfz35_7 := blk_frozen BK147.out 7; have hfz35_8 := blk_frozen BK147.out 8; have hfz35_9 := blk_frozen BK147.out 9))
    go_ret
    exact ⟨by (rfl), HB.out⟩


  rw [if_pos c3] at H
  have c3b0 : (a0_0 == a1_0) = true := beq_iff_eq.mpr c3
  have c3b1 : (a0_0 != a1_0) = false := bne_eq_false_iff_eq.mpr c3
  clear c3
  by_cases c4 : (a0_1 == a1_1) = true
  rotate_left
  · rw [if_neg c4] at H
    have c4b0 : (a0_1 == a1_1) = false := by simpa using c4
    (try (have c4b1 : decide (a0_1 = a1_1) = false := by simpa using c4))
    (try (have c4b2 : (a0_1 == a1_1) = false := by simpa using c4))
    (try (have c4b3 : ¬ (a0_1 = a1_1) := by simpa using c4))
    clear c4
    obtain rfl := Option.some.inj H
    go_enter Try.func45, Try.ntmps45
    go_wp2_with (first | ((with_reducible refine gate_dst (N := 2) rfl ?_); refine box_event ?hg (N := 2) ?hd (cs := #[.int .i64 a0_0, .bool a0_1, .slice A0_2 l0_2.length c0_2, .slice A0_3 l0_3.length c0_3, .int .i64 a0_4, .int .i64 a0_5, .string a0_6, .slice A0_7 l0_7.length c0_7, .int .i64 a0_8, .int .i64 a0_9]) (t := 39) ?hr ?_; (case hd => rfl); (case hg => rfl); (case hr => (go_simp; done)); intro gb146 hg w26 hbox hb; have n0_ := Aside0.mk (below_step HB.out hb); have n1_ := Aside0.mk (hbox); have n2_ := Aside0.mk ((by rw [hg]; exact (below_size HB.out) : w.heap.size ≤ gb146)); have n3_ := Aside0.mk ((by rw [hg]; exact (below_size HB.out) : w.heap.size ≤ gb146)); clear HB; have HB := n0_; have BK146 := n1_; have GW146 := n2_; have GE146 := n3_; clear n0_ n1_ n2_ n3_; clear hb hbox hg) | ((with_reducible refine gate_dst (N := 3) rfl ?_); refine box_event ?hg (N := 3) ?hd (cs := #[.int .i64 a1_0, .bool a1_1, .slice A1_2 l1_2.length c1_2, .slice A1_3 l1_3.length c1_3, .int .i64 a1_4, .int .i64 a1_5, .string a1_6, .slice A1_7 l1_7.length c1_7, .int .i64 a1_8, .int .i64 a1_9]) (t := 39) ?hr ?_; (case hd => rfl); (case hg => rfl); (case hr => (go_simp; done)); intro gb147 hg w27 hbox hb; have n0_ := Aside0.mk (blk_below (g := gb146) (o := .cells #[.int .i64 a0_0, .bool a0_1, .slice A0_2 l0_2.length c0_2, .slice A0_3 l0_3.length c0_3, .int .i64 a0_4, .int .i64 a0_5, .string a0_6, .slice A0_7 l0_7.length c0_7, .int .i64 a0_8, .int .i64 a0_9] 39 (0, 0)) (by exact BK146.out) hb); have n1_ := Aside0.mk (below_step HB.out hb); have n2_ := Aside0.mk (hbox); have n3_ := Aside0.mk ((by rw [hg]; exact (below_size HB.out) : w.heap.size ≤ gb147)); have n4_ := Aside0.mk ((by rw [hg]; exact (below_size HB.out) : w.heap.size ≤ gb147)); have n5_ := Aside0.mk ((by rw [hg]; exact Nat.ne_of_lt (blk_lt (g := gb146) (o := .cells #[.int .i64 a0_0, .bool a0_1, .slice A0_2 l0_2.length c0_2, .slice A0_3 l0_3.length c0_3, .int .i64 a0_4, .int .i64 a0_5, .string a0_6, .slice A0_7 l0_7.length c0_7, .int .i64 a0_8, .int .i64 a0_9] 39 (0, 0)) (by exact BK146.out)) : gb146 ≠ gb147)); have n6_ := Aside0.mk ((by rw [hg]; exact Nat.ne_of_gt (blk_lt (g := gb146) (o := .cells #[.int .i64 a0_0, .bool a0_1, .slice A0_2 l0_2.length c0_2, .slice A0_3 l0_3.length c0_3, .int .i64 a0_4, .int .i64 a0_5, .string a0_6, .slice A0_7 l0_7.length c0_7, .int .i64 a0_8, .int .i64 a0_9] 39 (0, 0)) (by exact BK146.out)) : gb147 ≠ gb146)); clear BK146; clear HB; have BK146 := n0_; have HB := n1_; have BK147 := n2_; have GW147 := n3_; have GE147 := n4_; have NB146_147 := n5_; have NB147_146 := n6_; clear n0_ n1_ n2_ n3_ n4_ n5_ n6_; clear hb hbox hg; have hnb28 := NB146_147.out; have hnc28 := NB147_146.out; have hcz29_0 : w27.cell? ⟨gb146, 0, none⟩ = some (.int .i64 a0_0) := (blk_cell BK146.out 0).trans rfl; have hcz29_1 : w27.cell? ⟨gb146, 1, none⟩ = some (.bool a0_1) := (blk_cell BK146.out 1).trans rfl; have hcz29_2 : w27.cell? ⟨gb146, 2, none⟩ = some (.slice A0_2 l0_2.length c0_2) := (blk_cell BK146.out 2).trans rfl; have hcz29_3 : w27.cell? ⟨gb146, 3, none⟩ = some (.slice A0_3 l0_3.length c0_3) := (blk_cell BK146.out 3).trans rfl; have hcz29_4 : w27.cell? ⟨gb146, 4, none⟩ = some (.int .i64 a0_4) := (blk_cell BK146.out 4).trans rfl; have hcz29_5 : w27.cell? ⟨gb146, 5, none⟩ = some (.int .i64 a0_5) := (blk_cell BK146.out 5).trans rfl; have hcz29_6 : w27.cell? ⟨gb146, 6, none⟩ = some (.string a0_6) := (blk_cell BK146.out 6).trans rfl; have hcz29_7 : w27.cell? ⟨gb146, 7, none⟩ = some (.slice A0_7 l0_7.length c0_7) := (blk_cell BK146.out 7).trans rfl; have hcz29_8 : w27.cell? ⟨gb146, 8, none⟩ = some (.int .i64 a0_8) := (blk_cell BK146.out 8).trans rfl; have hcz29_9 : w27.cell? ⟨gb146, 9, none⟩ = some (.int .i64 a0_9) := (blk_cell BK146.out 9).trans rfl; have hfz29_0 := blk_frozen BK146.out 0; have hfz29_1 := blk_frozen BK146.out 1; have hfz29_2 := blk_frozen BK146.out 2; have hfz29_3 := blk_frozen BK146.out 3; have hfz29_4 := blk_frozen BK146.out 4; have hfz29_5 := blk_frozen BK146.out 5; have hfz29_6 := blk_frozen BK146.out 6; have hfz29_7 := blk_frozen BK146.out 7; have hfz29_8 := blk_frozen BK146.out 8; have hfz29_9 := blk_frozen BK146.out 9; have hcz30_0 : w27.cell? ⟨gb147, 0, none⟩ = some (.int .i64 a1_0) := (blk_cell BK147.out 0).trans rfl; have hcz30_1 : w27.cell? ⟨gb147, 1, none⟩ = some (.bool a1_1) := (blk_cell BK147.out 1).trans rfl; have hcz30_2 : w27.cell? ⟨gb147, 2, none⟩ = some (.slice A1_2 l1_2.length c1_2) := (blk_cell BK147.out 2).trans rfl; have hcz30_3 : w27.cell? ⟨gb147, 3, none⟩ = some (.slice A1_3 l1_3.length c1_3) := (blk_cell BK147.out 3).trans rfl; have hcz30_4 : w27.cell? ⟨gb147, 4, none⟩ = some (.int .i64 a1_4) := (blk_cell BK147.out 4).trans rfl; have hcz30_5 : w27.cell? ⟨gb147, 5, none⟩ = some (.int .i64 a1_5) := (blk_cell BK147.out 5).trans rfl; have hcz30_6 : w27.cell? ⟨gb147, 6, none⟩ = some (.string a1_6) := (blk_cell BK147.out 6).trans rfl; have hcz30_7 : w27.cell? ⟨gb147, 7, none⟩ = some (.slice A1_7 l1_7.length c1_7) := (blk_cell BK147.out 7).trans rfl; have hcz30_8 : w27.cell? ⟨gb147, 8, none⟩ = some (.int .i64 a1_8) := (blk_cell BK147.out 8).trans rfl; have hcz30_9 : w27.cell? ⟨gb147, 9, none⟩ = some (.int .i64 a1_9) := (blk_cell BK147.out 9).trans rfl; have hfz30_0 := blk_frozen BK147.out 0; have hfz30_1 := blk_frozen BK147.out 1; have hfz30_2 := blk_frozen BK147.out 2; have hfz30_3 := blk_frozen BK147.out 3; have hfz30_4 := blk_frozen BK147.out 4; have hfz30_5 := blk_frozen BK147.out 5; have hfz30_6 := blk_frozen BK147.out 6; have hfz30_7 := blk_frozen BK147.out 7; have hfz30_8 := blk_frozen BK147.out 8; have hfz30_9 := blk_frozen BK147.out 9))
    go_ret
    exact ⟨by (rfl), HB.out⟩
  rw [if_pos c4] at H
  have c4b0 : (a0_1 == a1_1) = true := c4
  (try (have c4b1 : decide (a0_1 = a1_1) = true := by simpa using c4))
  (try (have c4b2 : (a0_1 == a1_1) = true := by simpa using c4))
  clear c4
  replace H := Option.bind_eq_some_iff.mp H
  obtain ⟨t148, A50, H⟩ := H
  replace H : (if t148 = true then ((notaryref06_Way.f k l0_3 l1_3).bind fun t149 => (if t149 = true then ((notaryref06_Same.f k a0_4 a0_5 a0_6 l0_7 a0_8 a0_9 a1_4 a1_5 a1_6 l1_7 a1_8 a1_9).bind fun t150 => (some t150)) else (some false))) else (some false)) = some r := H
  have A5 := Aside0.mk A50
  clear A50
  by_cases c6 : t148 = true
  rotate_left
  · replace c6 := Bool.eq_false_iff.mpr c6
    subst c6
    have H1 : (some false) = some r := by rw [if_neg (show ¬ (false = true) by decide)] at H; exact H
    clear H
    have H := H1
    clear H1
    obtain rfl := Option.some.inj H
    go_enter Try.func45, Try.ntmps45
    go_wp2_with (first | ((with_reducible refine gate_dst (N := 2) rfl ?_); refine box_event ?hg (N := 2) ?hd (cs := #[.int .i64 a0_0, .bool a0_1, .slice A0_2 l0_2.length c0_2, .slice A0_3 l0_3.length c0_3, .int .i64 a0_4, .int .i64 a0_5, .string a0_6, .slice A0_7 l0_7.length c0_7, .int .i64 a0_8, .int .i64 a0_9]) (t := 39) ?hr ?_; (case hd => rfl); (case hg => rfl); (case hr => (go_simp; done)); intro gb146 hg w21 hbox hb; have n0_ := Aside0.mk (below_step HB.out hb); have n1_ := Aside0.mk (hbox); have n2_ := Aside0.mk ((by rw [hg]; exact (below_size HB.out) : w.heap.size ≤ gb146)); have n3_ := Aside0.mk ((by rw [hg]; exact (below_size HB.out) : w.heap.size ≤ gb146)); clear HB; have HB := n0_; have BK146 := n1_; have GW146 := n2_; have GE146 := n3_; clear n0_ n1_ n2_ n3_; clear hb hbox hg) | ((with_reducible refine gate_dst (N := 3) rfl ?_); refine box_event ?hg (N := 3) ?hd (cs := #[.int .i64 a1_0, .bool a1_1, .slice A1_2 l1_2.length c1_2, .slice A1_3 l1_3.length c1_3, .int .i64 a1_4, .int .i64 a1_5, .string a1_6, .slice A1_7 l1_7.length c1_7, .int .i64 a1_8, .int .i64 a1_9]) (t := 39) ?hr ?_; (case hd => rfl); (case hg => rfl); (case hr => (go_simp; done)); intro gb147 hg w22 hbox hb; have n0_ := Aside0.mk (blk_below (g := gb146) (o := .cells #[.int .i64 a0_0, .bool a0_1, .slice A0_2 l0_2.length c0_2, .slice A0_3 l0_3.length c0_3, .int .i64 a0_4, .int .i64 a0_5, .string a0_6, .slice A0_7 l0_7.length c0_7, .int .i64 a0_8, .int .i64 a0_9] 39 (0, 0)) (by exact BK146.out) hb); have n1_ := Aside0.mk (below_step HB.out hb); have n2_ := Aside0.mk (hbox); have n3_ := Aside0.mk ((by rw [hg]; exact (below_size HB.out) : w.heap.size ≤ gb147)); have n4_ := Aside0.mk ((by rw [hg]; exact (below_size HB.out) : w.heap.size ≤ gb147)); have n5_ := Aside0.mk ((by rw [hg]; exact Nat.ne_of_lt (blk_lt (g := gb146) (o := .cells #[.int .i64 a0_0, .bool a0_1, .slice A0_2 l0_2.length c0_2, .slice A0_3 l0_3.length c0_3, .int .i64 a0_4, .int .i64 a0_5, .string a0_6, .slice A0_7 l0_7.length c0_7, .int .i64 a0_8, .int .i64 a0_9] 39 (0, 0)) (by exact BK146.out)) : gb146 ≠ gb147)); have n6_ := Aside0.mk ((by rw [hg]; exact Nat.ne_of_gt (blk_lt (g := gb146) (o := .cells #[.int .i64 a0_0, .bool a0_1, .slice A0_2 l0_2.length c0_2, .slice A0_3 l0_3.length c0_3, .int .i64 a0_4, .int .i64 a0_5, .string a0_6, .slice A0_7 l0_7.length c0_7, .int .i64 a0_8, .int .i64 a0_9] 39 (0, 0)) (by exact BK146.out)) : gb147 ≠ gb146)); clear BK146; clear HB; have BK146 := n0_; have HB := n1_; have BK147 := n2_; have GW147 := n3_; have GE147 := n4_; have NB146_147 := n5_; have NB147_146 := n6_; clear n0_ n1_ n2_ n3_ n4_ n5_ n6_; clear hb hbox hg; have hnb23 := NB146_147.out; have hnc23 := NB147_146.out; have hcz24_0 : w22.cell? ⟨gb146, 0, none⟩ = some (.int .i64 a0_0) := (blk_cell BK146.out 0).trans rfl; have hcz24_1 : w22.cell? ⟨gb146, 1, none⟩ = some (.bool a0_1) := (blk_cell BK146.out 1).trans rfl; have hcz24_2 : w22.cell? ⟨gb146, 2, none⟩ = some (.slice A0_2 l0_2.length c0_2) := (blk_cell BK146.out 2).trans rfl; have hcz24_3 : w22.cell? ⟨gb146, 3, none⟩ = some (.slice A0_3 l0_3.length c0_3) := (blk_cell BK146.out 3).trans rfl; have hcz24_4 : w22.cell? ⟨gb146, 4, none⟩ = some (.int .i64 a0_4) := (blk_cell BK146.out 4).trans rfl; have hcz24_5 : w22.cell? ⟨gb146, 5, none⟩ = some (.int .i64 a0_5) := (blk_cell BK146.out 5).trans rfl; have hcz24_6 : w22.cell? ⟨gb146, 6, none⟩ = some (.string a0_6) := (blk_cell BK146.out 6).trans rfl; have hcz24_7 : w22.cell? ⟨gb146, 7, none⟩ = some (.slice A0_7 l0_7.length c0_7) := (blk_cell BK146.out 7).trans rfl; have hcz24_8 : w22.cell? ⟨gb146, 8, none⟩ = some (.int .i64 a0_8) := (blk_cell BK146.out 8).trans rfl; have hcz24_9 : w22.cell? ⟨gb146, 9, none⟩ = some (.int .i64 a0_9) := (blk_cell BK146.out 9).trans rfl; have hfz24_0 := blk_frozen BK146.out 0; have hfz24_1 := blk_frozen BK146.out 1; have hfz24_2 := blk_frozen BK146.out 2; have hfz24_3 := blk_frozen BK146.out 3; have hfz24_4 := blk_frozen BK146.out 4; have hfz24_5 := blk_frozen BK146.out 5; have hfz24_6 := blk_frozen BK146.out 6; have hfz24_7 := blk_frozen BK146.out 7; have hfz24_8 := blk_frozen BK146.out 8; have hfz24_9 := blk_frozen BK146.out 9; have hcz25_0 : w22.cell? ⟨gb147, 0, none⟩ = some (.int .i64 a1_0) := (blk_cell BK147.out 0).trans rfl; have hcz25_1 : w22.cell? ⟨gb147, 1, none⟩ = some (.bool a1_1) := (blk_cell BK147.out 1).trans rfl; have hcz25_2 : w22.cell? ⟨gb147, 2, none⟩ = some (.slice A1_2 l1_2.length c1_2) := (blk_cell BK147.out 2).trans rfl; have hcz25_3 : w22.cell? ⟨gb147, 3, none⟩ = some (.slice A1_3 l1_3.length c1_3) := (blk_cell BK147.out 3).trans rfl; have hcz25_4 : w22.cell? ⟨gb147, 4, none⟩ = some (.int .i64 a1_4) := (blk_cell BK147.out 4).trans rfl; have hcz25_5 : w22.cell? ⟨gb147, 5, none⟩ = some (.int .i64 a1_5) := (blk_cell BK147.out 5).trans rfl; have hcz25_6 : w22.cell? ⟨gb147, 6, none⟩ = some (.string a1_6) := (blk_cell BK147.out 6).trans rfl; have hcz25_7 : w22.cell? ⟨gb147, 7, none⟩ = some (.slice A1_7 l1_7.length c1_7) := (blk_cell BK147.out 7).trans rfl; have hcz25_8 : w22.cell? ⟨gb147, 8, none⟩ = some (.int .i64 a1_8) := (blk_cell BK147.out 8).trans rfl; have hcz25_9 : w22.cell? ⟨gb147, 9, none⟩ = some (.int .i64 a1_9) := (blk_cell BK147.out 9).trans rfl; have hfz25_0 := blk_frozen BK147.out 0; have hfz25_1 := blk_frozen BK147.out 1; have hfz25_2 := blk_frozen BK147.out 2; have hfz25_3 := blk_frozen BK147.out 3; have hfz25_4 := blk_frozen BK147.out 4; have hfz25_5 := blk_frozen BK147.out 5; have hfz25_6 := blk_frozen BK147.out 6; have hfz25_7 := blk_frozen BK147.out 7; have hfz25_8 := blk_frozen BK147.out 8; have hfz25_9 := blk_frozen BK147.out 9) | (go_at_call 44; (with_reducible refine (notaryref06_Way.calls k _ _ l0_2 _ _ l1_2 false _ ?side1 ?side2 ?side3 ?side4 A5.out).mono ?_); (case side1 => exact Kd.C_below HR0_2.out HB.out); (case side2 => exact HC0_2.out); (case side3 => exact Kd.C_below HR1_2.out HB.out); (case side4 => exact HC1_2.out); rintro e w' ⟨rfl, ⟨nd, rfl⟩⟩))
    go_ret
    exact ⟨by (rfl), by repeat (with_reducible first | exact HB.out | apply pw_below_drewN)⟩
  subst c6
  have H1 : ((notaryref06_Way.f k l0_3 l1_3).bind fun t149 => (if t149 = true then ((notaryref06_Same.f k a0_4 a0_5 a0_6 l0_7 a0_8 a0_9 a1_4 a1_5 a1_6 l1_7 a1_8 a1_9).bind fun t150 => (some t150)) else (some false))) = some r := by rw [if_pos rfl] at H; exact H
  clear H
  have H := H1
  clear H1
  replace H := Option.bind_eq_some_iff.mp H
  obtain ⟨t149, A70, H⟩ := H
  replace H : (if t149 = true then ((notaryref06_Same.f k a0_4 a0_5 a0_6 l0_7 a0_8 a0_9 a1_4 a1_5 a1_6 l1_7 a1_8 a1_9).bind fun t150 => (some t150)) else (some false)) = some r := H
  have A7 := Aside0.mk A70
  clear A70
  by_cases c8 : t149 = true
  rotate_left
  · replace c8 := Bool.eq_false_iff.mpr c8
    subst c8
    have H1 : (some false) = some r := by rw [if_neg (show ¬ (false = true) by decide)] at H; exact H
    clear H
    have H := H1
    clear H1
    obtain rfl := Option.some.inj H
    go_enter Try.func45, Try.ntmps45
    go_wp2_with (first | ((with_reducible refine gate_dst (N := 2) rfl ?_); refine box_event ?hg (N := 2) ?hd (cs := #[.int .i64 a0_0, .bool a0_1, .slice A0_2 l0_2.length c0_2, .slice A0_3 l0_3.length c0_3, .int .i64 a0_4, .int .i64 a0_5, .string a0_6, .slice A0_7 l0_7.length c0_7, .int .i64 a0_8, .int .i64 a0_9]) (t := 39) ?hr ?_; (case hd => rfl); (case hg => rfl); (case hr => (go_simp; done)); intro gb146 hg w16 hbox hb; have n0_ := Aside0.mk (below_step HB.out hb); have n1_ := Aside0.mk (hbox); have n2_ := Aside0.mk ((by rw [hg]; exact (below_size HB.out) : w.heap.size ≤ gb146)); have n3_ := Aside0.mk ((by rw [hg]; exact (below_size HB.out) : w.heap.size ≤ gb146)); clear HB; have HB := n0_; have BK146 := n1_; have GW146 := n2_; have GE146 := n3_; clear n0_ n1_ n2_ n3_; clear hb hbox hg) | ((with_reducible refine gate_dst (N := 3) rfl ?_); refine box_event ?hg (N := 3) ?hd (cs := #[.int .i64 a1_0, .bool a1_1, .slice A1_2 l1_2.length c1_2, .slice A1_3 l1_3.length c1_3, .int .i64 a1_4, .int .i64 a1_5, .string a1_6, .slice A1_7 l1_7.length c1_7, .int .i64 a1_8, .int .i64 a1_9]) (t := 39) ?hr ?_; (case hd => rfl); (case hg => rfl); (case hr => (go_simp; done)); intro gb147 hg w17 hbox hb; have n0_ := Aside0.mk (blk_below (g := gb146) (o := .cells #[.int .i64 a0_0, .bool a0_1, .slice A0_2 l0_2.length c0_2, .slice A0_3 l0_3.length c0_3, .int .i64 a0_4, .int .i64 a0_5, .string a0_6, .slice A0_7 l0_7.length c0_7, .int .i64 a0_8, .int .i64 a0_9] 39 (0, 0)) (by exact BK146.out) hb); have n1_ := Aside0.mk (below_step HB.out hb); have n2_ := Aside0.mk (hbox); have n3_ := Aside0.mk ((by rw [hg]; exact (below_size HB.out) : w.heap.size ≤ gb147)); have n4_ := Aside0.mk ((by rw [hg]; exact (below_size HB.out) : w.heap.size ≤ gb147)); have n5_ := Aside0.mk ((by rw [hg]; exact Nat.ne_of_lt (blk_lt (g := gb146) (o := .cells #[.int .i64 a0_0, .bool a0_1, .slice A0_2 l0_2.length c0_2, .slice A0_3 l0_3.length c0_3, .int .i64 a0_4, .int .i64 a0_5, .string a0_6, .slice A0_7 l0_7.length c0_7, .int .i64 a0_8, .int .i64 a0_9] 39 (0, 0)) (by exact BK146.out)) : gb146 ≠ gb147)); have n6_ := Aside0.mk ((by rw [hg]; exact Nat.ne_of_gt (blk_lt (g := gb146) (o := .cells #[.int .i64 a0_0, .bool a0_1, .slice A0_2 l0_2.length c0_2, .slice A0_3 l0_3.length c0_3, .int .i64 a0_4, .int .i64 a0_5, .string a0_6, .slice A0_7 l0_7.length c0_7, .int .i64 a0_8, .int .i64 a0_9] 39 (0, 0)) (by exact BK146.out)) : gb147 ≠ gb146)); clear BK146; clear HB; have BK146 := n0_; have HB := n1_; have BK147 := n2_; have GW147 := n3_; have GE147 := n4_; have NB146_147 := n5_; have NB147_146 := n6_; clear n0_ n1_ n2_ n3_ n4_ n5_ n6_; clear hb hbox hg; have hnb18 := NB146_147.out; have hnc18 := NB147_146.out; have hcz19_0 : w17.cell? ⟨gb146, 0, none⟩ = some (.int .i64 a0_0) := (blk_cell BK146.out 0).trans rfl; have hcz19_1 : w17.cell? ⟨gb146, 1, none⟩ = some (.bool a0_1) := (blk_cell BK146.out 1).trans rfl; have hcz19_2 : w17.cell? ⟨gb146, 2, none⟩ = some (.slice A0_2 l0_2.length c0_2) := (blk_cell BK146.out 2).trans rfl; have hcz19_3 : w17.cell? ⟨gb146, 3, none⟩ = some (.slice A0_3 l0_3.length c0_3) := (blk_cell BK146.out 3).trans rfl; have hcz19_4 : w17.cell? ⟨gb146, 4, none⟩ = some (.int .i64 a0_4) := (blk_cell BK146.out 4).trans rfl; have hcz19_5 : w17.cell? ⟨gb146, 5, none⟩ = some (.int .i64 a0_5) := (blk_cell BK146.out 5).trans rfl; have hcz19_6 : w17.cell? ⟨gb146, 6, none⟩ = some (.string a0_6) := (blk_cell BK146.out 6).trans rfl; have hcz19_7 : w17.cell? ⟨gb146, 7, none⟩ = some (.slice A0_7 l0_7.length c0_7) := (blk_cell BK146.out 7).trans rfl; have hcz19_8 : w17.cell? ⟨gb146, 8, none⟩ = some (.int .i64 a0_8) := (blk_cell BK146.out 8).trans rfl; have hcz19_9 : w17.cell? ⟨gb146, 9, none⟩ = some (.int .i64 a0_9) := (blk_cell BK146.out 9).trans rfl; have hfz19_0 := blk_frozen BK146.out 0; have hfz19_1 := blk_frozen BK146.out 1; have hfz19_2 := blk_frozen BK146.out 2; have hfz19_3 := blk_frozen BK146.out 3; have hfz19_4 := blk_frozen BK146.out 4; have hfz19_5 := blk_frozen BK146.out 5; have hfz19_6 := blk_frozen BK146.out 6; have hfz19_7 := blk_frozen BK146.out 7; have hfz19_8 := blk_frozen BK146.out 8; have hfz19_9 := blk_frozen BK146.out 9; have hcz20_0 : w17.cell? ⟨gb147, 0, none⟩ = some (.int .i64 a1_0) := (blk_cell BK147.out 0).trans rfl; have hcz20_1 : w17.cell? ⟨gb147, 1, none⟩ = some (.bool a1_1) := (blk_cell BK147.out 1).trans rfl; have hcz20_2 : w17.cell? ⟨gb147, 2, none⟩ = some (.slice A1_2 l1_2.length c1_2) := (blk_cell BK147.out 2).trans rfl; have hcz20_3 : w17.cell? ⟨gb147, 3, none⟩ = some (.slice A1_3 l1_3.length c1_3) := (blk_cell BK147.out 3).trans rfl; have hcz20_4 : w17.cell? ⟨gb147, 4, none⟩ = some (.int .i64 a1_4) := (blk_cell BK147.out 4).trans rfl; have hcz20_5 : w17.cell? ⟨gb147, 5, none⟩ = some (.int .i64 a1_5) := (blk_cell BK147.out 5).trans rfl; have hcz20_6 : w17.cell? ⟨gb147, 6, none⟩ = some (.string a1_6) := (blk_cell BK147.out 6).trans rfl; have hcz20_7 : w17.cell? ⟨gb147, 7, none⟩ = some (.slice A1_7 l1_7.length c1_7) := (blk_cell BK147.out 7).trans rfl; have hcz20_8 : w17.cell? ⟨gb147, 8, none⟩ = some (.int .i64 a1_8) := (blk_cell BK147.out 8).trans rfl; have hcz20_9 : w17.cell? ⟨gb147, 9, none⟩ = some (.int .i64 a1_9) := (blk_cell BK147.out 9).trans rfl; have hfz20_0 := blk_frozen BK147.out 0; have hfz20_1 := blk_frozen BK147.out 1; have hfz20_2 := blk_frozen BK147.out 2; have hfz20_3 := blk_frozen BK147.out 3; have hfz20_4 := blk_frozen BK147.out 4; have hfz20_5 := blk_frozen BK147.out 5; have hfz20_6 := blk_frozen BK147.out 6; have hfz20_7 := blk_frozen BK147.out 7; have hfz20_8 := blk_frozen BK147.out 8; have hfz20_9 := blk_frozen BK147.out 9) | (go_at_call 44; (with_reducible refine (notaryref06_Way.calls k _ _ l0_2 _ _ l1_2 true _ ?side1 ?side2 ?side3 ?side4 A5.out).mono ?_); (case side1 => exact Kd.C_below HR0_2.out HB.out); (case side2 => exact HC0_2.out); (case side3 => exact Kd.C_below HR1_2.out HB.out); (case side4 => exact HC1_2.out); rintro e w' ⟨rfl, ⟨nd, rfl⟩⟩) | (go_at_call 44; (with_reducible refine (notaryref06_Way.calls k _ _ l0_3 _ _ l1_3 false _ ?side1 ?side2 ?side3 ?side4 A7.out).mono ?_); (case side1 => repeat ((exact (Kd.C_below HR0_3.out (by repeat (with_reducible first | exact HB.out | apply pw_below_drewN)))))); (case side2 => exact HC0_3.out); (case side3 => repeat ((exact (Kd.C_below HR1_3.out (by repeat (with_reducible first | exact HB.out | apply pw_below_drewN)))))); (case side4 => exact HC1_3.out); rintro e w' ⟨rfl, ⟨nd, rfl⟩⟩))
    go_ret
    exact ⟨by (rfl), by repeat (with_reducible first | exact HB.out | apply pw_below_drewN)⟩
  subst c8
  have H1 : ((notaryref06_Same.f k a0_4 a0_5 a0_6 l0_7 a0_8 a0_9 a1_4 a1_5 a1_6 l1_7 a1_8 a1_9).bind fun t150 => (some t150)) = some r := by rw [if_pos rfl] at H; exact H
  clear H
  have H := H1
  clear H1
  replace H := Option.bind_eq_some_iff.mp H
  obtain ⟨t150, A90, H⟩ := H
  replace H : (some t150) = some r := H
  have A9 := Aside0.mk A90
  clear A90
  obtain rfl := Option.some.inj H
  go_enter Try.func45, Try.ntmps45
  go_wp2_with (first | ((with_reducible refine gate_dst (N := 2) rfl ?_); refine box_event ?hg (N := 2) ?hd (cs := #[.int .i64 a0_0, .bool a0_1, .slice A0_2 l0_2.length c0_2, .slice A0_3 l0_3.length c0_3, .int .i64 a0_4, .int .i64 a0_5, .string a0_6, .slice A0_7 l0_7.length c0_7, .int .i64 a0_8, .int .i64 a0_9]) (t := 39) ?hr ?_; (case hd => rfl); (case hg => rfl); (case hr => (go_simp; done)); intro gb146 hg w10 hbox hb; have n0_ := Aside0.mk (below_step HB.out hb); have n1_ := Aside0.mk (hbox); have n2_ := Aside0.mk ((by rw [hg]; exact (below_size HB.out) : w.heap.size ≤ gb146)); have n3_ := Aside0.mk ((by rw [hg]; exact (below_size HB.out) : w.heap.size ≤ gb146)); clear HB; have HB := n0_; have BK146 := n1_; have GW146 := n2_; have GE146 := n3_; clear n0_ n1_ n2_ n3_; clear hb hbox hg) | ((with_reducible refine gate_dst (N := 3) rfl ?_); refine box_event ?hg (N := 3) ?hd (cs := #[.int .i64 a1_0, .bool a1_1, .slice A1_2 l1_2.length c1_2, .slice A1_3 l1_3.length c1_3, .int .i64 a1_4, .int .i64 a1_5, .string a1_6, .slice A1_7 l1_7.length c1_7, .int .i64 a1_8, .int .i64 a1_9]) (t := 39) ?hr ?_; (case hd => rfl); (case hg => rfl); (case hr => (go_simp; done)); intro gb147 hg w11 hbox hb; have n0_ := Aside0.mk (blk_below (g := gb146) (o := .cells #[.int .i64 a0_0, .bool a0_1, .slice A0_2 l0_2.length c0_2, .slice A0_3 l0_3.length c0_3, .int .i64 a0_4, .int .i64 a0_5, .string a0_6, .slice A0_7 l0_7.length c0_7, .int .i64 a0_8, .int .i64 a0_9] 39 (0, 0)) (by exact BK146.out) hb); have n1_ := Aside0.mk (below_step HB.out hb); have n2_ := Aside0.mk (hbox); have n3_ := Aside0.mk ((by rw [hg]; exact (below_size HB.out) : w.heap.size ≤ gb147)); have n4_ := Aside0.mk ((by rw [hg]; exact (below_size HB.out) : w.heap.size ≤ gb147)); have n5_ := Aside0.mk ((by rw [hg]; exact Nat.ne_of_lt (blk_lt (g := gb146) (o := .cells #[.int .i64 a0_0, .bool a0_1, .slice A0_2 l0_2.length c0_2, .slice A0_3 l0_3.length c0_3, .int .i64 a0_4, .int .i64 a0_5, .string a0_6, .slice A0_7 l0_7.length c0_7, .int .i64 a0_8, .int .i64 a0_9] 39 (0, 0)) (by exact BK146.out)) : gb146 ≠ gb147)); have n6_ := Aside0.mk ((by rw [hg]; exact Nat.ne_of_gt (blk_lt (g := gb146) (o := .cells #[.int .i64 a0_0, .bool a0_1, .slice A0_2 l0_2.length c0_2, .slice A0_3 l0_3.length c0_3, .int .i64 a0_4, .int .i64 a0_5, .string a0_6, .slice A0_7 l0_7.length c0_7, .int .i64 a0_8, .int .i64 a0_9] 39 (0, 0)) (by exact BK146.out)) : gb147 ≠ gb146)); clear BK146; clear HB; have BK146 := n0_; have HB := n1_; have BK147 := n2_; have GW147 := n3_; have GE147 := n4_; have NB146_147 := n5_; have NB147_146 := n6_; clear n0_ n1_ n2_ n3_ n4_ n5_ n6_; clear hb hbox hg; have hnb12 := NB146_147.out; have hnc12 := NB147_146.out; have hcz13_0 : w11.cell? ⟨gb146, 0, none⟩ = some (.int .i64 a0_0) := (blk_cell BK146.out 0).trans rfl; have hcz13_1 : w11.cell? ⟨gb146, 1, none⟩ = some (.bool a0_1) := (blk_cell BK146.out 1).trans rfl; have hcz13_2 : w11.cell? ⟨gb146, 2, none⟩ = some (.slice A0_2 l0_2.length c0_2) := (blk_cell BK146.out 2).trans rfl; have hcz13_3 : w11.cell? ⟨gb146, 3, none⟩ = some (.slice A0_3 l0_3.length c0_3) := (blk_cell BK146.out 3).trans rfl; have hcz13_4 : w11.cell? ⟨gb146, 4, none⟩ = some (.int .i64 a0_4) := (blk_cell BK146.out 4).trans rfl; have hcz13_5 : w11.cell? ⟨gb146, 5, none⟩ = some (.int .i64 a0_5) := (blk_cell BK146.out 5).trans rfl; have hcz13_6 : w11.cell? ⟨gb146, 6, none⟩ = some (.string a0_6) := (blk_cell BK146.out 6).trans rfl; have hcz13_7 : w11.cell? ⟨gb146, 7, none⟩ = some (.slice A0_7 l0_7.length c0_7) := (blk_cell BK146.out 7).trans rfl; have hcz13_8 : w11.cell? ⟨gb146, 8, none⟩ = some (.int .i64 a0_8) := (blk_cell BK146.out 8).trans rfl; have hcz13_9 : w11.cell? ⟨gb146, 9, none⟩ = some (.int .i64 a0_9) := (blk_cell BK146.out 9).trans rfl; have hfz13_0 := blk_frozen BK146.out 0; have hfz13_1 := blk_frozen BK146.out 1; have hfz13_2 := blk_frozen BK146.out 2; have hfz13_3 := blk_frozen BK146.out 3; have hfz13_4 := blk_frozen BK146.out 4; have hfz13_5 := blk_frozen BK146.out 5; have hfz13_6 := blk_frozen BK146.out 6; have hfz13_7 := blk_frozen BK146.out 7; have hfz13_8 := blk_frozen BK146.out 8; have hfz13_9 := blk_frozen BK146.out 9; have hcz14_0 : w11.cell? ⟨gb147, 0, none⟩ = some (.int .i64 a1_0) := (blk_cell BK147.out 0).trans rfl; have hcz14_1 : w11.cell? ⟨gb147, 1, none⟩ = some (.bool a1_1) := (blk_cell BK147.out 1).trans rfl; have hcz14_2 : w11.cell? ⟨gb147, 2, none⟩ = some (.slice A1_2 l1_2.length c1_2) := (blk_cell BK147.out 2).trans rfl; have hcz14_3 : w11.cell? ⟨gb147, 3, none⟩ = some (.slice A1_3 l1_3.length c1_3) := (blk_cell BK147.out 3).trans rfl; have hcz14_4 : w11.cell? ⟨gb147, 4, none⟩ = some (.int .i64 a1_4) := (blk_cell BK147.out 4).trans rfl; have hcz14_5 : w11.cell? ⟨gb147, 5, none⟩ = some (.int .i64 a1_5) := (blk_cell BK147.out 5).trans rfl; have hcz14_6 : w11.cell? ⟨gb147, 6, none⟩ = some (.string a1_6) := (blk_cell BK147.out 6).trans rfl; have hcz14_7 : w11.cell? ⟨gb147, 7, none⟩ = some (.slice A1_7 l1_7.length c1_7) := (blk_cell BK147.out 7).trans rfl; have hcz14_8 : w11.cell? ⟨gb147, 8, none⟩ = some (.int .i64 a1_8) := (blk_cell BK147.out 8).trans rfl; have hcz14_9 : w11.cell? ⟨gb147, 9, none⟩ = some (.int .i64 a1_9) := (blk_cell BK147.out 9).trans rfl; have hfz14_0 := blk_frozen BK147.out 0; have hfz14_1 := blk_frozen BK147.out 1; have hfz14_2 := blk_frozen BK147.out 2; have hfz14_3 := blk_frozen BK147.out 3; have hfz14_4 := blk_frozen BK147.out 4; have hfz14_5 := blk_frozen BK147.out 5; have hfz14_6 := blk_frozen BK147.out 6; have hfz14_7 := blk_frozen BK147.out 7; have hfz14_8 := blk_frozen BK147.out 8; have hfz14_9 := blk_frozen BK147.out 9) | (go_at_call 44; (with_reducible refine (notaryref06_Way.calls k _ _ l0_2 _ _ l1_2 true _ ?side1 ?side2 ?side3 ?side4 A5.out).mono ?_); (case side1 => exact Kd.C_below HR0_2.out HB.out); (case side2 => exact HC0_2.out); (case side3 => exact Kd.C_below HR1_2.out HB.out); (case side4 => exact HC1_2.out); rintro e w' ⟨rfl, ⟨nd, rfl⟩⟩) | (go_at_call 44; (with_reducible refine (notaryref06_Way.calls k _ _ l0_3 _ _ l1_3 true _ ?side1 ?side2 ?side3 ?side4 A7.out).mono ?_); (case side1 => repeat ((exact (Kd.C_below HR0_3.out (by repeat (with_reducible first | exact HB.out | apply pw_below_drewN)))))); (case side2 => exact HC0_3.out); (case side3 => repeat ((exact (Kd.C_below HR1_3.out (by repeat (with_reducible first | exact HB.out | apply pw_below_drewN)))))); (case side4 => exact HC1_3.out); rintro e w' ⟨rfl, ⟨nd, rfl⟩⟩) | (go_at_call 83; (with_reducible refine (notaryref06_Same.calls k a0_4 a0_5 a0_6 _ _ l0_7 a0_8 a0_9 a1_4 a1_5 a1_6 _ _ l1_7 a1_8 a1_9 t150 _ ?side1 ?side2 ?side3 ?side4 A9.out).mono ?_); (case side1 => repeat ((exact (Kd.C_below HR0_7.out (by repeat (with_reducible first | exact HB.out | apply pw_below_drewN)))))); (case side2 => exact HC0_7.out); (case side3 => repeat ((exact (Kd.C_below HR1_7.out (by repeat (with_reducible first | exact HB.out | apply pw_below_drewN)))))); (case side4 => exact HC1_7.out); rintro e w15 ⟨rfl, hb⟩; have n0_ := Aside0.mk (blk_below (g := gb146) (o := .cells #[.int .i64 a0_0, .bool a0_1, .slice A0_2 l0_2.length c0_2, .slice A0_3 l0_3.length c0_3, .int .i64 a0_4, .int .i64 a0_5, .string a0_6, .slice A0_7 l0_7.length c0_7, .int .i64 a0_8, .int .i64 a0_9] 39 (0, 0)) (by (with_reducible repeat (refine blk_drewN ?_ _)); exact BK146.out) hb); have n1_ := Aside0.mk (blk_below (g := gb147) (o := .cells #[.int .i64 a1_0, .bool a1_1, .slice A1_2 l1_2.length c1_2, .slice A1_3 l1_3.length c1_3, .int .i64 a1_4, .int .i64 a1_5, .string a1_6, .slice A1_7 l1_7.length c1_7, .int .i64 a1_8, .int .i64 a1_9] 39 (0, 0)) (by (with_reducible repeat (refine blk_drewN ?_ _)); exact BK147.out) hb); have n2_ := Aside0.mk (below_step (by repeat (with_reducible first | exact HB.out | apply pw_below_drewN)) hb); clear BK146; clear BK147; clear HB; have BK146 := n0_; have BK147 := n1_; have HB := n2_; clear n0_ n1_ n2_; (try clear hb); (skip)))
  go_ret
  exact ⟨by (rfl), HB.out⟩/-! ### notaryref35_Same: function 19 (given) -/
mutual
def notaryref35_Same.j0 : Nat → Bool → Int → List Int → Int → Bool → List Int → List Int → Int → Int → ByteArray → List (S25) → Int → Int → List (S42) → Int → List Int → Int → Bool → List Int → List Int → Int → Int → ByteArray → List (S25) → Int → Int → List (S42) → Option (Bool)
  | 0, _, _, _, _, _, _, _, _, _, _, _, _, _, _, _, _, _, _, _, _, _, _, _, _, _, _, _ => none
  | k + 1, x35, x328000, x328001, x328002, x328003, x328004, x328005, x328006, x328007, x328008, x328009, x328010, x328011, x328012, x329000, x329001, x329002, x329003, x329004, x329005, x329006, x329007, x329008, x329009, x329010, x329011, x329012 => if x35 = true then (some false) else (notaryref35_Same.l0 k 0 x328000 x328001 x328002 x328003 x328004 x328005 x328006 x328007 x328008 x328009 x328010 x328011 x328012 x329000 x329001 x329002 x329003 x329004 x329005 x329006 x329007 x329008 x329009 x329010 x329011 x329012)
def notaryref35_Same.l0 : Nat → Int → Int → List Int → Int → Bool → List Int → List Int → Int → Int → ByteArray → List (S25) → Int → Int → List (S42) → Int → List Int → Int → Bool → List Int → List Int → Int → Int → ByteArray → List (S25) → Int → Int → List (S42) → Option (Bool)
  | 0, _, _, _, _, _, _, _, _, _, _, _, _, _, _, _, _, _, _, _, _, _, _, _, _, _, _, _ => none
  | k + 1, x5, x328000, x328001, x328002, x328003, x328004, x328005, x328006, x328007, x328008, x328009, x328010, x328011, x328012, x329000, x329001, x329002, x329003, x329004, x329005, x329006, x329007, x329008, x329009, x329010, x329011, x329012 => if x5 < (x328012.length : Int) then (if 0 ≤ x5 then (if x5 < (x329012.length : Int) then ((notaryref35_Same.f k ((rd_T42 x328012 x5).f0) ((rd_T42 x328012 x5).f1) ((rd_T42 x328012 x5).f2.f0) ((rd_T42 x328012 x5).f2.f1) ((rd_T42 x328012 x5).f2.f2) ((rd_T42 x328012 x5).f2.f3) ((rd_T42 x328012 x5).f2.f4.f0) ((rd_T42 x328012 x5).f2.f4.f1) ((rd_T42 x328012 x5).f2.f4.f2) ((rd_T42 x328012 x5).f2.f4.f3) ((rd_T42 x328012 x5).f2.f4.f4) ((rd_T42 x328012 x5).f2.f4.f5) ((rd_T42 x328012 x5).f3) ((rd_T42 x329012 x5).f0) ((rd_T42 x329012 x5).f1) ((rd_T42 x329012 x5).f2.f0) ((rd_T42 x329012 x5).f2.f1) ((rd_T42 x329012 x5).f2.f2) ((rd_T42 x329012 x5).f2.f3) ((rd_T42 x329012 x5).f2.f4.f0) ((rd_T42 x329012 x5).f2.f4.f1) ((rd_T42 x329012 x5).f2.f4.f2) ((rd_T42 x329012 x5).f2.f4.f3) ((rd_T42 x329012 x5).f2.f4.f4) ((rd_T42 x329012 x5).f2.f4.f5) ((rd_T42 x329012 x5).f3)).bind fun t333 => (if t333 = true then (notaryref35_Same.l0 k (wrap64 (x5 + 1)) x328000 x328001 x328002 x328003 x328004 x328005 x328006 x328007 x328008 x328009 x328010 x328011 x328012 x329000 x329001 x329002 x329003 x329004 x329005 x329006 x329007 x329008 x329009 x329010 x329011 x329012) else (some false))) else (none)) else (none)) else (some true)
def notaryref35_Same.f : Nat → Int → List Int → Int → Bool → List Int → List Int → Int → Int → ByteArray → List (S25) → Int → Int → List (S42) → Int → List Int → Int → Bool → List Int → List Int → Int → Int → ByteArray → List (S25) → Int → Int → List (S42) → Option (Bool)
  | 0, _, _, _, _, _, _, _, _, _, _, _, _, _, _, _, _, _, _, _, _, _, _, _, _, _, _ => none
  | k + 1, a0_0, l0_1, a0_2, a0_3, l0_4, l0_5, a0_6, a0_7, a0_8, l0_9, a0_10, a0_11, l0_12, a1_0, l1_1, a1_2, a1_3, l1_4, l1_5, a1_6, a1_7, a1_8, l1_9, a1_10, a1_11, l1_12 => if a0_0 = a1_0 then ((notaryref06_Way.f k l0_1 l1_1).bind fun t329 => (if t329 = true then ((notaryref34_Same.f k a0_2 a0_3 l0_4 l0_5 a0_6 a0_7 a0_8 l0_9 a0_10 a0_11 a1_2 a1_3 l1_4 l1_5 a1_6 a1_7 a1_8 l1_9 a1_10 a1_11).bind fun t330 => (if t330 = true then (notaryref35_Same.j0 k ((l0_12.length : Int) != (l1_12.length : Int)) a0_0 l0_1 a0_2 a0_3 l0_4 l0_5 a0_6 a0_7 a0_8 l0_9 a0_10 a0_11 l0_12 a1_0 l1_1 a1_2 a1_3 l1_4 l1_5 a1_6 a1_7 a1_8 l1_9 a1_10 a1_11 l1_12) else (notaryref35_Same.j0 k true a0_0 l0_1 a0_2 a0_3 l0_4 l0_5 a0_6 a0_7 a0_8 l0_9 a0_10 a0_11 l0_12 a1_0 l1_1 a1_2 a1_3 l1_4 l1_5 a1_6 a1_7 a1_8 l1_9 a1_10 a1_11 l1_12))) else (notaryref35_Same.j0 k true a0_0 l0_1 a0_2 a0_3 l0_4 l0_5 a0_6 a0_7 a0_8 l0_9 a0_10 a0_11 l0_12 a1_0 l1_1 a1_2 a1_3 l1_4 l1_5 a1_6 a1_7 a1_8 l1_9 a1_10 a1_11 l1_12))) else (notaryref35_Same.j0 k true a0_0 l0_1 a0_2 a0_3 l0_4 l0_5 a0_6 a0_7 a0_8 l0_9 a0_10 a0_11 l0_12 a1_0 l1_1 a1_2 a1_3 l1_4 l1_5 a1_6 a1_7 a1_8 l1_9 a1_10 a1_11 l1_12)
end
theorem notaryref35_Same.jt {k : Nat} {a0_0 : Int} {l0_1 : List Int} {a0_2 : Int} {a0_3 : Bool} {l0_4 : List Int} {l0_5 : List Int} {a0_6 : Int} {a0_7 : Int} {a0_8 : ByteArray} {l0_9 : List S25} {a0_10 : Int} {a0_11 : Int} {l0_12 : List S42} {a1_0 : Int} {l1_1 : List Int} {a1_2 : Int} {a1_3 : Bool} {l1_4 : List Int} {l1_5 : List Int} {a1_6 : Int} {a1_7 : Int} {a1_8 : ByteArray} {l1_9 : List S25} {a1_10 : Int} {a1_11 : Int} {l1_12 : List S42} {r : Bool} (h : notaryref35_Same.j0 k true a0_0 l0_1 a0_2 a0_3 l0_4 l0_5 a0_6 a0_7 a0_8 l0_9 a0_10 a0_11 l0_12 a1_0 l1_1 a1_2 a1_3 l1_4 l1_5 a1_6 a1_7 a1_8 l1_9 a1_10 a1_11 l1_12 = some r) : r = false := by
  cases k with
  | zero => exact absurd h (by simp [notaryref35_Same.j0])
  | succ k =>
    simp only [notaryref35_Same.j0] at h
    simpa using h.symm
theorem notaryref35_Same.rdD (l : List S42) (j : Nat) (h : j < l.length) : rd_T42 l (j : Int) = l[j] := by
  unfold rd_T42
  rw [Int.toNat_natCast, List.getD_eq_getElem?_getD, List.getElem?_eq_getElem h, Option.getD_some]
set_option maxHeartbeats 16000000 in
set_option maxRecDepth 100000 in
theorem notaryref35_Same.calls (k : Nat) : ∀ (a0_0 : Int) (A0_1 : Option Addr) (c0_1 : Nat) (l0_1 : List Int) (a0_2 : Int) (a0_3 : Bool) (A0_4 : Option Addr) (c0_4 : Nat) (l0_4 : List Int) (A0_5 : Option Addr) (c0_5 : Nat) (l0_5 : List Int) (a0_6 : Int) (a0_7 : Int) (a0_8 : ByteArray) (A0_9 : Option Addr) (c0_9 : Nat) (l0_9 : List (S25)) (a0_10 : Int) (a0_11 : Int) (A0_12 : Option Addr) (c0_12 : Nat) (l0_12 : List (S42)) (a1_0 : Int) (A1_1 : Option Addr) (c1_1 : Nat) (l1_1 : List Int) (a1_2 : Int) (a1_3 : Bool) (A1_4 : Option Addr) (c1_4 : Nat) (l1_4 : List Int) (A1_5 : Option Addr) (c1_5 : Nat) (l1_5 : List Int) (a1_6 : Int) (a1_7 : Int) (a1_8 : ByteArray) (A1_9 : Option Addr) (c1_9 : Nat) (l1_9 : List (S25)) (a1_10 : Int) (a1_11 : Int) (A1_12 : Option Addr) (c1_12 : Nat) (l1_12 : List (S42)) (r : Bool) (w : World) (hr0_1 : Kd.C (Kd.int .i64) w A0_1 l0_1.length l0_1) (hc0_1 : l0_1.length ≤ c0_1) (hr0_4 : Kd.C (Kd.int .i64) w A0_4 l0_4.length l0_4) (hc0_4 : l0_4.length ≤ c0_4) (hr0_5 : Kd.C (Kd.int .i64) w A0_5 l0_5.length l0_5) (hc0_5 : l0_5.length ≤ c0_5) (hr0_9 : Kd.C k25 w A0_9 l0_9.length l0_9) (hc0_9 : l0_9.length ≤ c0_9) (hr0_12 : Kd.C k42 w A0_12 l0_12.length l0_12) (hc0_12 : l0_12.length ≤ c0_12) (hr1_1 : Kd.C (Kd.int .i64) w A1_1 l1_1.length l1_1) (hc1_1 : l1_1.length ≤ c1_1) (hr1_4 : Kd.C (Kd.int .i64) w A1_4 l1_4.length l1_4) (hc1_4 : l1_4.length ≤ c1_4) (hr1_5 : Kd.C (Kd.int .i64) w A1_5 l1_5.length l1_5) (hc1_5 : l1_5.length ≤ c1_5) (hr1_9 : Kd.C k25 w A1_9 l1_9.length l1_9) (hc1_9 : l1_9.length ≤ c1_9) (hr1_12 : Kd.C k42 w A1_12 l1_12.length l1_12) (hc1_12 : l1_12.length ≤ c1_12) (h : notaryref35_Same.f k a0_0 l0_1 a0_2 a0_3 l0_4 l0_5 a0_6 a0_7 a0_8 l0_9 a0_10 a0_11 l0_12 a1_0 l1_1 a1_2 a1_3 l1_4 l1_5 a1_6 a1_7 a1_8 l1_9 a1_10 a1_11 l1_12 = some r),
    Calls Try.prog 19 #[.agg #[.int .i64 a0_0, .slice A0_1 l0_1.length c0_1, .int .i64 a0_2, .bool a0_3, .slice A0_4 l0_4.length c0_4, .slice A0_5 l0_5.length c0_5, .int .i64 a0_6, .int .i64 a0_7, .string a0_8, .slice A0_9 l0_9.length c0_9, .int .i64 a0_10, .int .i64 a0_11, .slice A0_12 l0_12.length c0_12], .agg #[.int .i64 a1_0, .slice A1_1 l1_1.length c1_1, .int .i64 a1_2, .bool a1_3, .slice A1_4 l1_4.length c1_4, .slice A1_5 l1_5.length c1_5, .int .i64 a1_6, .int .i64 a1_7, .string a1_8, .slice A1_9 l1_9.length c1_9, .int .i64 a1_10, .int .i64 a1_11, .slice A1_12 l1_12.length c1_12]] w fun e w' => e = .returned (.bool r) ∧ Below w.heap.size w w' := by
  induction k using Nat.strongRecOn with
  | _ k ih =>
  intro a0_0 A0_1 c0_1 l0_1 a0_2 a0_3 A0_4 c0_4 l0_4 A0_5 c0_5 l0_5 a0_6 a0_7 a0_8 A0_9 c0_9 l0_9 a0_10 a0_11 A0_12 c0_12 l0_12 a1_0 A1_1 c1_1 l1_1 a1_2 a1_3 A1_4 c1_4 l1_4 A1_5 c1_5 l1_5 a1_6 a1_7 a1_8 A1_9 c1_9 l1_9 a1_10 a1_11 A1_12 c1_12 l1_12 r w hr0_1 hc0_1 hr0_4 hc0_4 hr0_5 hc0_5 hr0_9 hc0_9 hr0_12 hc0_12 hr1_1 hc1_1 hr1_4 hc1_4 hr1_5 hc1_5 hr1_9 hc1_9 hr1_12 hc1_12 h
  cases k with
  | zero => exact absurd h (by simp [notaryref35_Same.f])
  | succ k =>
  simp only [notaryref35_Same.f] at h
  have hu := Try.underlying42
  have hu2 := Try.underlying39
  have HR0_1 := Aside0.mk hr0_1
  have HC0_1 := Aside0.mk hc0_1
  have HR0_4 := Aside0.mk hr0_4
  have HC0_4 := Aside0.mk hc0_4
  have HR0_5 := Aside0.mk hr0_5
  have HC0_5 := Aside0.mk hc0_5
  have HR0_9 := Aside0.mk hr0_9
  have HC0_9 := Aside0.mk hc0_9
  have HR0_12 := Aside0.mk hr0_12
  have HC0_12 := Aside0.mk hc0_12
  have HR1_1 := Aside0.mk hr1_1
  have HC1_1 := Aside0.mk hc1_1
  have HR1_4 := Aside0.mk hr1_4
  have HC1_4 := Aside0.mk hc1_4
  have HR1_5 := Aside0.mk hr1_5
  have HC1_5 := Aside0.mk hc1_5
  have HR1_9 := Aside0.mk hr1_9
  have HC1_9 := Aside0.mk hc1_9
  have HR1_12 := Aside0.mk hr1_12
  have HC1_12 := Aside0.mk hc1_12
  have HIH := Aside0.mk ih
  have H := Aside0.mk h
  obtain ⟨W, hW⟩ : ∃ W : World, W = (w.alloc (.cells #[.int .i64 a0_0, .slice A0_1 l0_1.length c0_1, .int .i64 a0_2, .bool a0_3, .slice A0_4 l0_4.length c0_4, .slice A0_5 l0_5.length c0_5, .int .i64 a0_6, .int .i64 a0_7, .string a0_8, .slice A0_9 l0_9.length c0_9, .int .i64 a0_10, .int .i64 a0_11, .slice A0_12 l0_12.length c0_12] 42)).alloc (.cells #[.int .i64 a1_0, .slice A1_1 l1_1.length c1_1, .int .i64 a1_2, .bool a1_3, .slice A1_4 l1_4.length c1_4, .slice A1_5 l1_5.length c1_5, .int .i64 a1_6, .int .i64 a1_7, .string a1_8, .slice A1_9 l1_9.length c1_9, .int .i64 a1_10, .int .i64 a1_11, .slice A1_12 l1_12.length c1_12] 42) := ⟨_, rfl⟩
  have hb : Below w.heap.size w W := by rw [hW]; exact below_alloc (below_alloc (Below.refl _ _) _) _
  have h0 : W.heap[w.heap.size]? = some (.cells #[.int .i64 a0_0, .slice A0_1 l0_1.length c0_1, .int .i64 a0_2, .bool a0_3, .slice A0_4 l0_4.length c0_4, .slice A0_5 l0_5.length c0_5, .int .i64 a0_6, .int .i64 a0_7, .string a0_8, .slice A0_9 l0_9.length c0_9, .int .i64 a0_10, .int .i64 a0_11, .slice A0_12 l0_12.length c0_12] 42 (0, 0)) := by rw [hW]; exact blk_alloc (blk_new _ _) _
  have h1 : W.heap[w.heap.size + 1]? = some (.cells #[.int .i64 a1_0, .slice A1_1 l1_1.length c1_1, .int .i64 a1_2, .bool a1_3, .slice A1_4 l1_4.length c1_4, .slice A1_5 l1_5.length c1_5, .int .i64 a1_6, .int .i64 a1_7, .string a1_8, .slice A1_9 l1_9.length c1_9, .int .i64 a1_10, .int .i64 a1_11, .slice A1_12 l1_12.length c1_12] 42 (0, 0)) := by
    rw [hW]
    have := blk_new (w.alloc (.cells #[.int .i64 a0_0, .slice A0_1 l0_1.length c0_1, .int .i64 a0_2, .bool a0_3, .slice A0_4 l0_4.length c0_4, .slice A0_5 l0_5.length c0_5, .int .i64 a0_6, .int .i64 a0_7, .string a0_8, .slice A0_9 l0_9.length c0_9, .int .i64 a0_10, .int .i64 a0_11, .slice A0_12 l0_12.length c0_12] 42)) (.cells #[.int .i64 a1_0, .slice A1_1 l1_1.length c1_1, .int .i64 a1_2, .bool a1_3, .slice A1_4 l1_4.length c1_4, .slice A1_5 l1_5.length c1_5, .int .i64 a1_6, .int .i64 a1_7, .string a1_8, .slice A1_9 l1_9.length c1_9, .int .i64 a1_10, .int .i64 a1_11, .slice A1_12 l1_12.length c1_12] 42)
    simpa using this
  have HB := Aside0.mk hb
  have H0 := Aside0.mk h0
  have H1 := Aside0.mk h1
  have x0 : W.cell? ⟨w.heap.size, 0, none⟩ = some (.int .i64 a0_0) := (blk_cell h0 0).trans rfl
  have x1 : W.cell? ⟨w.heap.size, 1, none⟩ = some (.slice A0_1 l0_1.length c0_1) := (blk_cell h0 1).trans rfl
  have x2 : W.cell? ⟨w.heap.size, 2, none⟩ = some (.int .i64 a0_2) := (blk_cell h0 2).trans rfl
  have x3 : W.cell? ⟨w.heap.size, 3, none⟩ = some (.bool a0_3) := (blk_cell h0 3).trans rfl
  have x4 : W.cell? ⟨w.heap.size, 4, none⟩ = some (.slice A0_4 l0_4.length c0_4) := (blk_cell h0 4).trans rfl
  have x5 : W.cell? ⟨w.heap.size, 5, none⟩ = some (.slice A0_5 l0_5.length c0_5) := (blk_cell h0 5).trans rfl
  have x6 : W.cell? ⟨w.heap.size, 6, none⟩ = some (.int .i64 a0_6) := (blk_cell h0 6).trans rfl
  have x7 : W.cell? ⟨w.heap.size, 7, none⟩ = some (.int .i64 a0_7) := (blk_cell h0 7).trans rfl
  have x8 : W.cell? ⟨w.heap.size, 8, none⟩ = some (.string a0_8) := (blk_cell h0 8).trans rfl
  have x9 : W.cell? ⟨w.heap.size, 9, none⟩ = some (.slice A0_9 l0_9.length c0_9) := (blk_cell h0 9).trans rfl
  have x10 : W.cell? ⟨w.heap.size, 10, none⟩ = some (.int .i64 a0_10) := (blk_cell h0 10).trans rfl
  have x11 : W.cell? ⟨w.heap.size, 11, none⟩ = some (.int .i64 a0_11) := (blk_cell h0 11).trans rfl
  have x12 : W.cell? ⟨w.heap.size, 12, none⟩ = some (.slice A0_12 l0_12.length c0_12) := (blk_cell h0 12).trans rfl
  have y0 : W.cell? ⟨w.heap.size + 1, 0, none⟩ = some (.int .i64 a1_0) := (blk_cell h1 0).trans rfl
  have y1 : W.cell? ⟨w.heap.size + 1, 1, none⟩ = some (.slice A1_1 l1_1.length c1_1) := (blk_cell h1 1).trans rfl
  have y2 : W.cell? ⟨w.heap.size + 1, 2, none⟩ = some (.int .i64 a1_2) := (blk_cell h1 2).trans rfl
  have y3 : W.cell? ⟨w.heap.size + 1, 3, none⟩ = some (.bool a1_3) := (blk_cell h1 3).trans rfl
  have y4 : W.cell? ⟨w.heap.size + 1, 4, none⟩ = some (.slice A1_4 l1_4.length c1_4) := (blk_cell h1 4).trans rfl
  have y5 : W.cell? ⟨w.heap.size + 1, 5, none⟩ = some (.slice A1_5 l1_5.length c1_5) := (blk_cell h1 5).trans rfl
  have y6 : W.cell? ⟨w.heap.size + 1, 6, none⟩ = some (.int .i64 a1_6) := (blk_cell h1 6).trans rfl
  have y7 : W.cell? ⟨w.heap.size + 1, 7, none⟩ = some (.int .i64 a1_7) := (blk_cell h1 7).trans rfl
  have y8 : W.cell? ⟨w.heap.size + 1, 8, none⟩ = some (.string a1_8) := (blk_cell h1 8).trans rfl
  have y9 : W.cell? ⟨w.heap.size + 1, 9, none⟩ = some (.slice A1_9 l1_9.length c1_9) := (blk_cell h1 9).trans rfl
  have y10 : W.cell? ⟨w.heap.size + 1, 10, none⟩ = some (.int .i64 a1_10) := (blk_cell h1 10).trans rfl
  have y11 : W.cell? ⟨w.heap.size + 1, 11, none⟩ = some (.int .i64 a1_11) := (blk_cell h1 11).trans rfl
  have y12 : W.cell? ⟨w.heap.size + 1, 12, none⟩ = some (.slice A1_12 l1_12.length c1_12) := (blk_cell h1 12).trans rfl
  clear h ih hr0_1 hc0_1 hr0_4 hc0_4 hr0_5 hc0_5 hr0_9 hc0_9 hr0_12 hc0_12 hr1_1 hc1_1 hr1_4 hc1_4 hr1_5 hc1_5 hr1_9 hc1_9 hr1_12 hc1_12 hb h0 h1
  go_enter Try.func19, Try.ntmps19
  go_upto_region 1 with (fail)
  rw [← hW]
  clear hW
  have h := H.out
  clear H
  by_cases c0 : a0_0 = a1_0
  case neg =>
    rw [if_neg c0] at h
    have b0 : (a0_0 != a1_0) = true := bne_iff_ne.mpr c0
    obtain rfl := notaryref35_Same.jt h
    clear h c0
    go_wp2
    go_ret
    exact ⟨rfl, HB.out⟩
  rw [if_pos c0] at h
  have b0 : (a0_0 != a1_0) = false := bne_eq_false_iff_eq.mpr c0
  clear c0
  obtain ⟨t1, ht1, h⟩ := Option.bind_eq_some_iff.mp h
  have HT1 := Aside0.mk ht1
  clear ht1
  cases t1 with
  | false =>
    rw [if_neg (by decide)] at h
    obtain rfl := notaryref35_Same.jt h
    clear h
    go_wp2_with (((go_at_call 44; (with_reducible refine (notaryref06_Way.calls _ _ _ l0_1 _ _ l1_1 false _ (Kd.C_below HR0_1.out HB.out) HC0_1.out (Kd.C_below HR1_1.out HB.out) HC1_1.out HT1.out).mono ?_); rintro y w1 ⟨rfl, hz⟩; obtain ⟨m1, rfl⟩ := hz.out; (have HB1 : Aside0 (Below w.heap.size w (W.drewN m1)) := ⟨pw_below_drewN HB.out m1⟩); clear hz)))
    go_ret
    exact ⟨rfl, HB1.out⟩
  | true =>
  rw [if_pos rfl] at h
  obtain ⟨t2, ht2, h⟩ := Option.bind_eq_some_iff.mp h
  have HT2 := Aside0.mk ht2
  clear ht2
  cases t2 with
  | false =>
    rw [if_neg (by decide)] at h
    obtain rfl := notaryref35_Same.jt h
    clear h
    go_wp2_with (first | (go_at_call 45; (with_reducible refine (notaryref34_Same.calls _ a0_2 a0_3 A0_4 c0_4 l0_4 A0_5 c0_5 l0_5 a0_6 a0_7 a0_8 A0_9 c0_9 l0_9 a0_10 a0_11 a1_2 a1_3 A1_4 c1_4 l1_4 A1_5 c1_5 l1_5 a1_6 a1_7 a1_8 A1_9 c1_9 l1_9 a1_10 a1_11 false _ (Kd.C_below HR0_4.out HB1.out) HC0_4.out (Kd.C_below HR0_5.out HB1.out) HC0_5.out (Kd.C_below HR0_9.out HB1.out) HC0_9.out (Kd.C_below HR1_4.out HB1.out) HC1_4.out (Kd.C_below HR1_5.out HB1.out) HC1_5.out (Kd.C_below HR1_9.out HB1.out) HC1_9.out HT2.out).mono ?_); rintro y w2 ⟨rfl, hz⟩; (have HB2 := Aside0.mk (HB1.out.trans (hz.mono (below_size HB1.out)))); (have K0 := Aside0.mk (blk_below (blk_drewN H0.out m1) hz)); (have K1 := Aside0.mk (blk_below (blk_drewN H1.out m1) hz)); (have z0 : w2.cell? ⟨w.heap.size, 12, none⟩ = some (.slice A0_12 l0_12.length c0_12) := (blk_cell K0.out 12).trans rfl); (have z1 : w2.cell? ⟨w.heap.size + 1, 12, none⟩ = some (.slice A1_12 l1_12.length c1_12) := (blk_cell K1.out 12).trans rfl); clear hz) | (go_at_call 44; (with_reducible refine (notaryref06_Way.calls _ _ _ l0_1 _ _ l1_1 true _ (Kd.C_below HR0_1.out HB.out) HC0_1.out (Kd.C_below HR1_1.out HB.out) HC1_1.out HT1.out).mono ?_); rintro y w1 ⟨rfl, hz⟩; obtain ⟨m1, rfl⟩ := hz.out; (have HB1 : Aside0 (Below w.heap.size w (W.drewN m1)) := ⟨pw_below_drewN HB.out m1⟩); clear hz))
    go_ret
    exact ⟨rfl, HB2.out⟩
  | true =>
  rw [if_pos rfl] at h
  by_cases c3 : (l0_12.length : Int) = (l1_12.length : Int)
  case neg =>
    have b3 : ((l0_12.length : Int) != (l1_12.length : Int)) = true := bne_iff_ne.mpr c3
    rw [b3] at h
    obtain rfl := notaryref35_Same.jt h
    clear h c3
    go_wp2_with (first | (go_at_call 45; (with_reducible refine (notaryref34_Same.calls _ a0_2 a0_3 A0_4 c0_4 l0_4 A0_5 c0_5 l0_5 a0_6 a0_7 a0_8 A0_9 c0_9 l0_9 a0_10 a0_11 a1_2 a1_3 A1_4 c1_4 l1_4 A1_5 c1_5 l1_5 a1_6 a1_7 a1_8 A1_9 c1_9 l1_9 a1_10 a1_11 true _ (Kd.C_below HR0_4.out HB1.out) HC0_4.out (Kd.C_below HR0_5.out HB1.out) HC0_5.out (Kd.C_below HR0_9.out HB1.out) HC0_9.out (Kd.C_below HR1_4.out HB1.out) HC1_4.out (Kd.C_below HR1_5.out HB1.out) HC1_5.out (Kd.C_below HR1_9.out HB1.out) HC1_9.out HT2.out).mono ?_); rintro y w2 ⟨rfl, hz⟩; (have HB2 := Aside0.mk (HB1.out.trans (hz.mono (below_size HB1.out)))); (have K0 := Aside0.mk (blk_below (blk_drewN H0.out m1) hz)); (have K1 := Aside0.mk (blk_below (blk_drewN H1.out m1) hz)); (have z0 : w2.cell? ⟨w.heap.size, 12, none⟩ = some (.slice A0_12 l0_12.length c0_12) := (blk_cell K0.out 12).trans rfl); (have z1 : w2.cell? ⟨w.heap.size + 1, 12, none⟩ = some (.slice A1_12 l1_12.length c1_12) := (blk_cell K1.out 12).trans rfl); clear hz) | (go_at_call 44; (with_reducible refine (notaryref06_Way.calls _ _ _ l0_1 _ _ l1_1 true _ (Kd.C_below HR0_1.out HB.out) HC0_1.out (Kd.C_below HR1_1.out HB.out) HC1_1.out HT1.out).mono ?_); rintro y w1 ⟨rfl, hz⟩; obtain ⟨m1, rfl⟩ := hz.out; (have HB1 : Aside0 (Below w.heap.size w (W.drewN m1)) := ⟨pw_below_drewN HB.out m1⟩); clear hz))
    go_ret
    exact ⟨rfl, HB2.out⟩
  have b3 : ((l0_12.length : Int) != (l1_12.length : Int)) = false := bne_eq_false_iff_eq.mpr c3
  rw [b3] at h
  have HN : Aside0 (l0_12.length = l1_12.length) := ⟨by omega⟩
  have HM := Aside0.mk (Kd.C_max HR0_12.out)
  clear c3
  cases k with
  | zero => exact absurd h (by simp [notaryref35_Same.j0])
  | succ k =>
  simp only [notaryref35_Same.j0] at h
  rw [if_neg (by decide)] at h
  have H := Aside0.mk h
  clear h
  go_wp2_with (first | (go_at_call 45; (with_reducible refine (notaryref34_Same.calls _ a0_2 a0_3 A0_4 c0_4 l0_4 A0_5 c0_5 l0_5 a0_6 a0_7 a0_8 A0_9 c0_9 l0_9 a0_10 a0_11 a1_2 a1_3 A1_4 c1_4 l1_4 A1_5 c1_5 l1_5 a1_6 a1_7 a1_8 A1_9 c1_9 l1_9 a1_10 a1_11 true _ (Kd.C_below HR0_4.out HB1.out) HC0_4.out (Kd.C_below HR0_5.out HB1.out) HC0_5.out (Kd.C_below HR0_9.out HB1.out) HC0_9.out (Kd.C_below HR1_4.out HB1.out) HC1_4.out (Kd.C_below HR1_5.out HB1.out) HC1_5.out (Kd.C_below HR1_9.out HB1.out) HC1_9.out HT2.out).mono ?_); rintro y w2 ⟨rfl, hz⟩; (have HB2 := Aside0.mk (HB1.out.trans (hz.mono (below_size HB1.out)))); (have K0 := Aside0.mk (blk_below (blk_drewN H0.out m1) hz)); (have K1 := Aside0.mk (blk_below (blk_drewN H1.out m1) hz)); (have z0 : w2.cell? ⟨w.heap.size, 12, none⟩ = some (.slice A0_12 l0_12.length c0_12) := (blk_cell K0.out 12).trans rfl); (have z1 : w2.cell? ⟨w.heap.size + 1, 12, none⟩ = some (.slice A1_12 l1_12.length c1_12) := (blk_cell K1.out 12).trans rfl); clear hz) | (go_at_call 44; (with_reducible refine (notaryref06_Way.calls _ _ _ l0_1 _ _ l1_1 true _ (Kd.C_below HR0_1.out HB.out) HC0_1.out (Kd.C_below HR1_1.out HB.out) HC1_1.out HT1.out).mono ?_); rintro y w1 ⟨rfl, hz⟩; obtain ⟨m1, rfl⟩ := hz.out; (have HB1 : Aside0 (Below w.heap.size w (W.drewN m1)) := ⟨pw_below_drewN HB.out m1⟩); clear hz))
  go_loopg [5] k (fun q v5 w' => ∃ (j : Nat), v5 = .int .i64 (j : Int) ∧ j ≤ l0_12.length ∧ q ≤ k ∧ Aside0 (notaryref35_Same.l0 q (j : Int) a0_0 l0_1 a0_2 a0_3 l0_4 l0_5 a0_6 a0_7 a0_8 l0_9 a0_10 a0_11 l0_12 a1_0 l1_1 a1_2 a1_3 l1_4 l1_5 a1_6 a1_7 a1_8 l1_9 a1_10 a1_11 l1_12 = some r) ∧ Aside0 (Below w2.heap.size w2 w'))
  case atStart => exact ⟨0, rfl, Nat.zero_le _, Nat.le_refl _, H, ⟨Below.refl _ _⟩⟩
  case round =>
    clear H
    obtain ⟨j, rfl, hj, hq, H, HW⟩ := hrel
    have g0 := blk_below K0.out HW.out
    have g1 := blk_below K1.out HW.out
    have x12 : wr.cell? ⟨w.heap.size, 12, none⟩ = some (.slice A0_12 l0_12.length c0_12) := (blk_cell g0 12).trans rfl
    have y12 : wr.cell? ⟨w.heap.size + 1, 12, none⟩ = some (.slice A1_12 l1_12.length c1_12) := (blk_cell g1 12).trans rfl
    have HBW : Aside0 (Below w.heap.size w wr) := ⟨HB2.out.trans (HW.out.mono (below_size HB2.out))⟩
    clear g0 g1
    cases gk with
    | zero => exact absurd H.out (by simp [notaryref35_Same.l0])
    | succ q =>
      have h := H.out
      simp only [notaryref35_Same.l0] at h
      clear H
      by_cases hjl : j < l0_12.length
      case neg =>
        rw [if_neg (by omega)] at h
        obtain rfl := Option.some.inj h
        obtain rfl : j = l0_12.length := by omega
        have d1 : decide ((l0_12.length : Int) < (l0_12.length : Int)) = false := by simp
        clear h hjl
        go_wp2
        go_ret
        exact ⟨rfl, HBW.out⟩
      rw [if_pos (by omega), if_pos (by omega), if_pos (by have := HN.out; omega)] at h
      have hj2 : j < l1_12.length := by have := HN.out; omega
      have d1 : decide ((j : Int) < (l0_12.length : Int)) = true := decide_eq_true (by omega)
      rw [notaryref35_Same.rdD l0_12 j hjl, notaryref35_Same.rdD l1_12 j hj2] at h
      obtain ⟨ad, D1, d1', D4, d4, D5, d5, D9, d9, D12, d12, e0, hfk, m0, m1, m2, m3, m4, m5, m6, m7, m8, m9, m10, m11, m12⟩ := code_dw.get (Kd.C_F code_Deriv.heapD (Kd.C_below HR0_12.out HBW.out)) j hjl
      obtain ⟨ae, E1, e1', E4, e4, E5, e5, E9, e9, E12, e12, e0', hfk', n0, n1, n2, n3, n4, n5, n6, n7, n8, n9, n10, n11, n12⟩ := code_dw.get (Kd.C_F code_Deriv.heapD (Kd.C_below HR1_12.out HBW.out)) j hj2
      obtain ⟨X, hXe⟩ : ∃ X, X = l0_12[j] := ⟨_, rfl⟩
      obtain ⟨Y, hYe⟩ : ∃ Y, Y = l1_12[j] := ⟨_, rfl⟩
      rw [← hXe] at h hfk m0 m1 m2 m3 m4 m5 m6 m7 m8 m9 m10 m11 m12
      rw [← hYe] at h hfk' n0 n1 n2 n3 n4 n5 n6 n7 n8 n9 n10 n11 n12
      clear hXe hYe
      subst e0 e0'
      obtain ⟨P1, s1, P4, s4, P5, s5, P9, s9, P12, s12, he, q1, r1, q4, r4, q5, r5, q9, r9, q12, r12⟩ := k42_open (Kd.FK_now hfk)
      have he2 : ([.int .i64 X.f0, .slice D1 X.f1.length d1', .int .i64 X.f2.f0, .bool X.f2.f1, .slice D4 X.f2.f2.length d4, .slice D5 X.f2.f3.length d5, .int .i64 X.f2.f4.f0, .int .i64 X.f2.f4.f1, .string X.f2.f4.f2, .slice D9 X.f2.f4.f3.length d9, .int .i64 X.f2.f4.f4, .int .i64 X.f2.f4.f5, .slice D12 X.f3.length d12] : List Value) = [.int .i64 X.f0, .slice P1 X.f1.length s1, .int .i64 X.f2.f0, .bool X.f2.f1, .slice P4 X.f2.f2.length s4, .slice P5 X.f2.f3.length s5, .int .i64 X.f2.f4.f0, .int .i64 X.f2.f4.f1, .string X.f2.f4.f2, .slice P9 X.f2.f4.f3.length s9, .int .i64 X.f2.f4.f4, .int .i64 X.f2.f4.f5, .slice P12 X.f3.length s12] := he
      simp only [List.cons.injEq, Value.slice.injEq, and_true, true_and] at he2
      obtain ⟨⟨rfl, rfl⟩, ⟨rfl, rfl⟩, ⟨rfl, rfl⟩, ⟨rfl, rfl⟩, rfl, rfl⟩ := he2
      obtain ⟨P1, s1, P4, s4, P5, s5, P9, s9, P12, s12, he', u1, v1, u4, v4, u5, v5, u9, v9, u12, v12⟩ := k42_open (Kd.FK_now hfk')
      have he3 : ([.int .i64 Y.f0, .slice E1 Y.f1.length e1', .int .i64 Y.f2.f0, .bool Y.f2.f1, .slice E4 Y.f2.f2.length e4, .slice E5 Y.f2.f3.length e5, .int .i64 Y.f2.f4.f0, .int .i64 Y.f2.f4.f1, .string Y.f2.f4.f2, .slice E9 Y.f2.f4.f3.length e9, .int .i64 Y.f2.f4.f4, .int .i64 Y.f2.f4.f5, .slice E12 Y.f3.length e12] : List Value) = [.int .i64 Y.f0, .slice P1 Y.f1.length s1, .int .i64 Y.f2.f0, .bool Y.f2.f1, .slice P4 Y.f2.f2.length s4, .slice P5 Y.f2.f3.length s5, .int .i64 Y.f2.f4.f0, .int .i64 Y.f2.f4.f1, .string Y.f2.f4.f2, .slice P9 Y.f2.f4.f3.length s9, .int .i64 Y.f2.f4.f4, .int .i64 Y.f2.f4.f5, .slice P12 Y.f3.length s12] := he'
      simp only [List.cons.injEq, Value.slice.injEq, and_true, true_and] at he3
      obtain ⟨⟨rfl, rfl⟩, ⟨rfl, rfl⟩, ⟨rfl, rfl⟩, ⟨rfl, rfl⟩, rfl, rfl⟩ := he3
      obtain ⟨t, ht, h⟩ := Option.bind_eq_some_iff.mp h
      have p0 : 0 ≤ (j : Int) := by omega
      have p1 : (j : Int) < (l0_12.length : Int) := by omega
      have p2 : (j : Int) < (l1_12.length : Int) := by omega
      have hwj : IntKind.i64.wrap ((j : Int) + 1) = ((j + 1 : Nat) : Int) := by
        rw [IntWalk.i64_in _ (by have := HM.out; omega)]
        omega
      have hwj2 : wrap64 ((j : Int) + 1) = ((j + 1 : Nat) : Int) := by rw [← i64_w]; exact hwj
      rw [hwj2] at h
      have HT := Aside0.mk ht
      have H := Aside0.mk h
      have HJ : Aside0 (j < l0_12.length) := ⟨hjl⟩
      have HQ : Aside0 (q < k + 1) := ⟨by omega⟩
      clear h ht hj hjl hj2 hq hfk hfk' he he' hwj2
      go_upto_region 6 with (fail)
      refine start_ (n := 12) (S := fun w' => Below wr.heap.size wr w') (ds := []) (bl 12 0) (by kernel_rfl) rfl rfl (below_drew (Below.refl _ _)) (fun hHeld => ?_)
      refine pure_ (i := 0) (N := some 43) (v := ?_) (a' := ?_) (bl 12 1) rfl rfl (by kernel_rfl) (fun _ _ _ h => h) (Or.inl ⟨by rfl, ?_⟩) ?_ ?_
      rotate_left
      · intro w'; go_simp; with_reducible rfl
      rotate_left
      · simp only [Act.put, sa_, sz_, ss_, i64_w, i32_w]; rfl
      refine pure_ (i := 2) (N := some 45) (v := ?_) (a' := ?_) (bl 12 5) rfl rfl (by kernel_rfl) (fun _ _ _ h => h) (Or.inl ⟨by rfl, ?_⟩) ?_ ?_
      rotate_left
      · intro w'; go_simp; with_reducible rfl
      rotate_left
      · simp only [Act.put, sa_, sz_, ss_, i64_w, i32_w]; rfl
      refine pure_ (i := 5) (N := some 48) (v := ?_) (a' := ?_) (bl 12 37) rfl rfl (by kernel_rfl) (fun _ _ _ h => h) (Or.inl ⟨by rfl, ?_⟩) ?_ ?_
      rotate_left
      · intro w'; go_simp; with_reducible rfl
      rotate_left
      · simp only [Act.put, sa_, sz_, ss_, i64_w, i32_w]; rfl
      refine pure_ (i := 7) (N := some 50) (v := ?_) (a' := ?_) (bl 12 165) rfl rfl (by kernel_rfl) (fun _ _ _ h => h) (Or.inl ⟨by rfl, ?_⟩) ?_ ?_
      rotate_left
      · intro w'; go_simp; with_reducible rfl
      rotate_left
      · simp only [Act.put, sa_, sz_, ss_, i64_w, i32_w]; rfl
      refine take_ (i := 1) (N := some 44) (v := ?_) (a' := ?_) (bl 12 167) rfl rfl (by kernel_rfl) (fun _ _ _ h => h) (Or.inl ⟨by rfl, ?_⟩) hHeld ?_ ?_
      rotate_left
      · intro w' hs
        have s0 := pw_cell_below hs x12
        go_simp
        with_reducible rfl
      rotate_left
      · simp only [Act.put, sa_, sz_, ss_, i64_w, i32_w]; rfl
      refine pure_ (i := 3) (N := some 46) (v := ?_) (a' := ?_) (bl 12 175) rfl rfl (by kernel_rfl) (fun _ _ _ h => h) (Or.inl ⟨by rfl, ?_⟩) ?_ ?_
      rotate_left
      · intro w'; go_simp; with_reducible rfl
      rotate_left
      · simp only [Act.put, sa_, sz_, ss_, i64_w, i32_w]; rfl
      refine take_ (i := 4) (N := some 47) (v := ?_) (a' := ?_) (bl 12 191) rfl rfl (by kernel_rfl) (fun _ _ _ h => h) (Or.inl ⟨by rfl, ?_⟩) hHeld ?_ ?_
      rotate_left
      · intro w' hs
        have s0 := pw_cell_below hs m0
        have s1 := pw_cell_below hs m1
        have s2 := pw_cell_below hs m2
        have s3 := pw_cell_below hs m3
        have s4 := pw_cell_below hs m4
        have s5 := pw_cell_below hs m5
        have s6 := pw_cell_below hs m6
        have s7 := pw_cell_below hs m7
        have s8 := pw_cell_below hs m8
        have s9 := pw_cell_below hs m9
        have s10 := pw_cell_below hs m10
        have s11 := pw_cell_below hs m11
        have s12 := pw_cell_below hs m12
        go_simp
        with_reducible rfl
      rotate_left
      · simp only [Act.put, sa_, sz_, ss_, i64_w, i32_w]; rfl
      refine take_ (i := 6) (N := some 49) (v := ?_) (a' := ?_) (bl 12 255) rfl rfl (by kernel_rfl) (fun _ _ _ h => h) (Or.inl ⟨by rfl, ?_⟩) hHeld ?_ ?_
      rotate_left
      · intro w' hs
        have s0 := pw_cell_below hs y12
        go_simp
        with_reducible rfl
      rotate_left
      · simp only [Act.put, sa_, sz_, ss_, i64_w, i32_w]; rfl
      refine pure_ (i := 8) (N := some 51) (v := ?_) (a' := ?_) (bl 12 511) rfl rfl (by kernel_rfl) (fun _ _ _ h => h) (Or.inl ⟨by rfl, ?_⟩) ?_ ?_
      rotate_left
      · intro w'; go_simp; with_reducible rfl
      rotate_left
      · simp only [Act.put, sa_, sz_, ss_, i64_w, i32_w]; rfl
      refine take_ (i := 9) (N := some 52) (v := ?_) (a' := ?_) (bl 12 1023) rfl rfl (by kernel_rfl) (fun _ _ _ h => h) (Or.inl ⟨by rfl, ?_⟩) hHeld ?_ ?_
      rotate_left
      · intro w' hs
        have s0 := pw_cell_below hs n0
        have s1 := pw_cell_below hs n1
        have s2 := pw_cell_below hs n2
        have s3 := pw_cell_below hs n3
        have s4 := pw_cell_below hs n4
        have s5 := pw_cell_below hs n5
        have s6 := pw_cell_below hs n6
        have s7 := pw_cell_below hs n7
        have s8 := pw_cell_below hs n8
        have s9 := pw_cell_below hs n9
        have s10 := pw_cell_below hs n10
        have s11 := pw_cell_below hs n11
        have s12 := pw_cell_below hs n12
        go_simp
        with_reducible rfl
      rotate_left
      · simp only [Act.put, sa_, sz_, ss_, i64_w, i32_w]; rfl
      refine one_ (i := 10) (N := some 53) (bl 12 2047) rfl rfl (by kernel_rfl) (by decide) (fun K hK => ?_)
      refine goes_ Try.func19 (by kernel_rfl) rfl #[.agg #[.int .i64 X.f0, .slice D1 X.f1.length d1', .int .i64 X.f2.f0, .bool X.f2.f1, .slice D4 X.f2.f2.length d4, .slice D5 X.f2.f3.length d5, .int .i64 X.f2.f4.f0, .int .i64 X.f2.f4.f1, .string X.f2.f4.f2, .slice D9 X.f2.f4.f3.length d9, .int .i64 X.f2.f4.f4, .int .i64 X.f2.f4.f5, .slice D12 X.f3.length d12], .agg #[.int .i64 Y.f0, .slice E1 Y.f1.length e1', .int .i64 Y.f2.f0, .bool Y.f2.f1, .slice E4 Y.f2.f2.length e4, .slice E5 Y.f2.f3.length e5, .int .i64 Y.f2.f4.f0, .int .i64 Y.f2.f4.f1, .string Y.f2.f4.f2, .slice E9 Y.f2.f4.f3.length e9, .int .i64 Y.f2.f4.f4, .int .i64 Y.f2.f4.f5, .slice E12 Y.f3.length e12]] (by rfl) rfl rfl (by (try simp only [List.map_toArray, List.map_cons, List.map_nil]); (rfl)) ?_
      with_reducible refine (HIH.out q (by have := HQ.out; omega) X.f0 D1 d1' X.f1 X.f2.f0 X.f2.f1 D4 d4 X.f2.f2 D5 d5 X.f2.f3 X.f2.f4.f0 X.f2.f4.f1 X.f2.f4.f2 D9 d9 X.f2.f4.f3 X.f2.f4.f4 X.f2.f4.f5 D12 d12 X.f3 Y.f0 E1 e1' Y.f1 Y.f2.f0 Y.f2.f1 E4 e4 Y.f2.f2 E5 e5 Y.f2.f3 Y.f2.f4.f0 Y.f2.f4.f1 Y.f2.f4.f2 E9 e9 Y.f2.f4.f3 Y.f2.f4.f4 Y.f2.f4.f5 E12 e12 Y.f3 t _ (Kd.C_drew r1) q1 (Kd.C_drew r4) q4 (Kd.C_drew r5) q5 (Kd.C_drew r9) q9 (Kd.C_drew r12) q12 (Kd.C_drew v1) u1 (Kd.C_drew v4) u4 (Kd.C_drew v5) u5 (Kd.C_drew v9) u9 (Kd.C_drew v12) u12 HT.out).mono ?_
      rintro e wc ⟨rfl, hzc⟩
      have hbc : Below wr.heap.size wr wc := (below_drew (Below.refl _ _)).trans hzc
      refine ⟨_, rfl, ?_⟩
      refine hK.out _ _ hbc (fun hHeld => ?_)
      have HBC := Aside0.mk hbc
      have HBE : Aside0 (Below w.heap.size w wc) := ⟨HBW.out.trans (hbc.mono (below_size HBW.out))⟩
      clear hK K hzc hbc
      refine norm_ (a' := ?_) ?_ ?_
      rotate_left
      · show Act.put _ (some 53) _ = _
        simp only [Act.put, sa_, sz_, ss_, i64_w, i32_w]
        rfl
      refine pure_ (i := 11) (N := some 54) (v := ?_) (a' := ?_) (bl 12 4095) rfl rfl (by kernel_rfl) (fun _ _ _ h => h) (Or.inl ⟨by rfl, ?_⟩) ?_ ?_
      rotate_left
      · intro w'; go_simp; with_reducible rfl
      rotate_left
      · simp only [Act.put, sa_, sz_, ss_, i64_w, i32_w]; rfl
      refine done_ (by kernel_rfl) ?_
      cases t with
      | false =>
        have h := H.out
        rw [if_neg (by decide)] at h
        obtain rfl := Option.some.inj h
        clear h H
        go_wp2
        go_ret
        exact ⟨rfl, HBE.out⟩
      | true =>
        have h := H.out
        rw [if_pos rfl] at h
        have H2 := Aside0.mk h
        clear h H
        go_wp2
        go_roundg q
        case measure => omega
        case rel => exact ⟨j + 1, rfl, HJ.out, by have := HQ.out; omega, H2, ⟨HW.out.trans (HBC.out.mono (below_size HW.out))⟩⟩

/-! ### notaryref36_Same: function 20 -/
def notaryref36_Same.f (k : Nat) (a0_0 : Int) (l0_1 : List Int) (a0_2 : Int) (a0_3 : Bool) (l0_4 : List Int) (l0_5 : List Int) (a0_6 : Int) (a0_7 : Int) (a0_8 : ByteArray) (l0_9 : List (S25)) (a0_10 : Int) (a0_11 : Int) (l0_12 : List (S42)) (a1_0 : Int) (l1_1 : List Int) (a1_2 : Int) (a1_3 : Bool) (l1_4 : List Int) (l1_5 : List Int) (a1_6 : Int) (a1_7 : Int) (a1_8 : ByteArray) (l1_9 : List (S25)) (a1_10 : Int) (a1_11 : Int) (l1_12 : List (S42)) : Option (Bool) := (notaryref35_Same.f k a0_0 l0_1 a0_2 a0_3 l0_4 l0_5 a0_6 a0_7 a0_8 l0_9 a0_10 a0_11 l0_12 a1_0 l1_1 a1_2 a1_3 l1_4 l1_5 a1_6 a1_7 a1_8 l1_9 a1_10 a1_11 l1_12).bind fun t153 => (if t153 = true then ((notaryref06_Placed.f k a0_6 a0_7 a0_8 l0_9 a0_10 a0_11 a1_6 a1_7 a1_8 l1_9 a1_10 a1_11).bind fun t154 => (some t154)) else (some false))
set_option maxHeartbeats 8000000 in
set_option maxRecDepth 100000 in
theorem notaryref36_Same.calls (k : Nat) (a0_0 : Int) (A0_1 : Option Addr) (c0_1 : Nat) (l0_1 : List Int) (a0_2 : Int) (a0_3 : Bool) (A0_4 : Option Addr) (c0_4 : Nat) (l0_4 : List Int) (A0_5 : Option Addr) (c0_5 : Nat) (l0_5 : List Int) (a0_6 : Int) (a0_7 : Int) (a0_8 : ByteArray) (A0_9 : Option Addr) (c0_9 : Nat) (l0_9 : List (S25)) (a0_10 : Int) (a0_11 : Int) (A0_12 : Option Addr) (c0_12 : Nat) (l0_12 : List (S42)) (a1_0 : Int) (A1_1 : Option Addr) (c1_1 : Nat) (l1_1 : List Int) (a1_2 : Int) (a1_3 : Bool) (A1_4 : Option Addr) (c1_4 : Nat) (l1_4 : List Int) (A1_5 : Option Addr) (c1_5 : Nat) (l1_5 : List Int) (a1_6 : Int) (a1_7 : Int) (a1_8 : ByteArray) (A1_9 : Option Addr) (c1_9 : Nat) (l1_9 : List (S25)) (a1_10 : Int) (a1_11 : Int) (A1_12 : Option Addr) (c1_12 : Nat) (l1_12 : List (S42)) (r : Bool) (w : World) (hr0_1 : Kd.C (Kd.int .i64) w A0_1 l0_1.length l0_1) (hc0_1 : l0_1.length ≤ c0_1) (hr0_4 : Kd.C (Kd.int .i64) w A0_4 l0_4.length l0_4) (hc0_4 : l0_4.length ≤ c0_4) (hr0_5 : Kd.C (Kd.int .i64) w A0_5 l0_5.length l0_5) (hc0_5 : l0_5.length ≤ c0_5) (hr0_9 : Kd.C k25 w A0_9 l0_9.length l0_9) (hc0_9 : l0_9.length ≤ c0_9) (hr0_12 : Kd.C k42 w A0_12 l0_12.length l0_12) (hc0_12 : l0_12.length ≤ c0_12) (hr1_1 : Kd.C (Kd.int .i64) w A1_1 l1_1.length l1_1) (hc1_1 : l1_1.length ≤ c1_1) (hr1_4 : Kd.C (Kd.int .i64) w A1_4 l1_4.length l1_4) (hc1_4 : l1_4.length ≤ c1_4) (hr1_5 : Kd.C (Kd.int .i64) w A1_5 l1_5.length l1_5) (hc1_5 : l1_5.length ≤ c1_5) (hr1_9 : Kd.C k25 w A1_9 l1_9.length l1_9) (hc1_9 : l1_9.length ≤ c1_9) (hr1_12 : Kd.C k42 w A1_12 l1_12.length l1_12) (hc1_12 : l1_12.length ≤ c1_12) (h : notaryref36_Same.f k a0_0 l0_1 a0_2 a0_3 l0_4 l0_5 a0_6 a0_7 a0_8 l0_9 a0_10 a0_11 l0_12 a1_0 l1_1 a1_2 a1_3 l1_4 l1_5 a1_6 a1_7 a1_8 l1_9 a1_10 a1_11 l1_12 = some r) :
    Calls Try.prog 20 #[.agg #[.int .i64 a0_0, .slice A0_1 l0_1.length c0_1, .int .i64 a0_2, .bool a0_3, .slice A0_4 l0_4.length c0_4, .slice A0_5 l0_5.length c0_5, .int .i64 a0_6, .int .i64 a0_7, .string a0_8, .slice A0_9 l0_9.length c0_9, .int .i64 a0_10, .int .i64 a0_11, .slice A0_12 l0_12.length c0_12], .agg #[.int .i64 a1_0, .slice A1_1 l1_1.length c1_1, .int .i64 a1_2, .bool a1_3, .slice A1_4 l1_4.length c1_4, .slice A1_5 l1_5.length c1_5, .int .i64 a1_6, .int .i64 a1_7, .string a1_8, .slice A1_9 l1_9.length c1_9, .int .i64 a1_10, .int .i64 a1_11, .slice A1_12 l1_12.length c1_12]] w fun e w' => e = .returned (.bool r) ∧ Below w.heap.size w w' := by
  have hu42 := Try.underlying42
  have hu25 := Try.underlying25
  have HR0_1 := Aside0.mk hr0_1
  have HC0_1 := Aside0.mk hc0_1
  clear hr0_1 hc0_1
  have HR0_4 := Aside0.mk hr0_4
  have HC0_4 := Aside0.mk hc0_4
  clear hr0_4 hc0_4
  have HR0_5 := Aside0.mk hr0_5
  have HC0_5 := Aside0.mk hc0_5
  clear hr0_5 hc0_5
  have HR0_9 := Aside0.mk hr0_9
  have HC0_9 := Aside0.mk hc0_9
  clear hr0_9 hc0_9
  have HR0_12 := Aside0.mk hr0_12
  have HC0_12 := Aside0.mk hc0_12
  clear hr0_12 hc0_12
  have HR1_1 := Aside0.mk hr1_1
  have HC1_1 := Aside0.mk hc1_1
  clear hr1_1 hc1_1
  have HR1_4 := Aside0.mk hr1_4
  have HC1_4 := Aside0.mk hc1_4
  clear hr1_4 hc1_4
  have HR1_5 := Aside0.mk hr1_5
  have HC1_5 := Aside0.mk hc1_5
  clear hr1_5 hc1_5
  have HR1_9 := Aside0.mk hr1_9
  have HC1_9 := Aside0.mk hc1_9
  clear hr1_9 hc1_9
  have HR1_12 := Aside0.mk hr1_12
  have HC1_12 := Aside0.mk hc1_12
  clear hr1_12 hc1_12
  have HB := Aside0.mk (Below.refl w.heap.size w)
  have H : ((notaryref35_Same.f k a0_0 l0_1 a0_2 a0_3 l0_4 l0_5 a0_6 a0_7 a0_8 l0_9 a0_10 a0_11 l0_12 a1_0 l1_1 a1_2 a1_3 l1_4 l1_5 a1_6 a1_7 a1_8 l1_9 a1_10 a1_11 l1_12).bind fun t153 => (if t153 = true then ((notaryref06_Placed.f k a0_6 a0_7 a0_8 l0_9 a0_10 a0_11 a1_6 a1_7 a1_8 l1_9 a1_10 a1_11).bind fun t154 => (some t154)) else (some false))) = some r := h
  clear h
  replace H := Option.bind_eq_some_iff.mp H
  obtain ⟨t153, A30, H⟩ := H
  replace H : (if t153 = true then ((notaryref06_Placed.f k a0_6 a0_7 a0_8 l0_9 a0_10 a0_11 a1_6 a1_7 a1_8 l1_9 a1_10 a1_11).bind fun t154 => (some t154)) else (some false)) = some r := H
  have A3 := Aside0.mk A30
  clear A30
  by_cases c4 : t153 = true
  rotate_left
  · replace c4 := Bool.eq_false_iff.mpr c4
    subst c4
    have H1 : (some false) = some r := by rw [if_neg (show ¬ (false = true) by decide)] at H; exact H
    clear H
    have H := H1
    clear H1
    obtain rfl := Option.some.inj H
    go_enter Try.func20, Try.ntmps20
    go_wp2_with (first | ((with_reducible refine gate_dst (N := 2) rfl ?_); refine box_event ?hg (N := 2) ?hd (cs := #[.int .i64 a0_0, .slice A0_1 l0_1.length c0_1, .int .i64 a0_2, .bool a0_3, .slice A0_4 l0_4.length c0_4, .slice A0_5 l0_5.length c0_5, .int .i64 a0_6, .int .i64 a0_7, .string a0_8, .slice A0_9 l0_9.length c0_9, .int .i64 a0_10, .int .i64 a0_11, .slice A0_12 l0_12.length c0_12]) (t := 42) ?hr ?_; (case hd => rfl); (case hg => rfl); (case hr => (go_simp; done)); intro gb151 hg w15 hbox hb; have n0_ := Aside0.mk (below_step HB.out hb); have n1_ := Aside0.mk (hbox); have n2_ := Aside0.mk ((by rw [hg]; exact (below_size HB.out) : w.heap.size ≤ gb151)); have n3_ := Aside0.mk ((by rw [hg]; exact (below_size HB.out) : w.heap.size ≤ gb151)); clear HB; have HB := n0_; have BK151 := n1_; have GW151 := n2_; have GE151 := n3_; clear n0_ n1_ n2_ n3_; clear hb hbox hg) | ((with_reducible refine gate_dst (N := 3) rfl ?_); refine box_event ?hg (N := 3) ?hd (cs := #[.int .i64 a1_0, .slice A1_1 l1_1.length c1_1, .int .i64 a1_2, .bool a1_3, .slice A1_4 l1_4.length c1_4, .slice A1_5 l1_5.length c1_5, .int .i64 a1_6, .int .i64 a1_7, .string a1_8, .slice A1_9 l1_9.length c1_9, .int .i64 a1_10, .int .i64 a1_11, .slice A1_12 l1_12.length c1_12]) (t := 42) ?hr ?_; (case hd => rfl); (case hg => rfl); (case hr => (go_simp; done)); intro gb152 hg w16 hbox hb; have n0_ := Aside0.mk (blk_below (g := gb151) (o := .cells #[.int .i64 a0_0, .slice A0_1 l0_1.length c0_1, .int .i64 a0_2, .bool a0_3, .slice A0_4 l0_4.length c0_4, .slice A0_5 l0_5.length c0_5, .int .i64 a0_6, .int .i64 a0_7, .string a0_8, .slice A0_9 l0_9.length c0_9, .int .i64 a0_10, .int .i64 a0_11, .slice A0_12 l0_12.length c0_12] 42 (0, 0)) (by exact BK151.out) hb); have n1_ := Aside0.mk (below_step HB.out hb); have n2_ := Aside0.mk (hbox); have n3_ := Aside0.mk ((by rw [hg]; exact (below_size HB.out) : w.heap.size ≤ gb152)); have n4_ := Aside0.mk ((by rw [hg]; exact (below_size HB.out) : w.heap.size ≤ gb152)); have n5_ := Aside0.mk ((by rw [hg]; exact Nat.ne_of_lt (blk_lt (g := gb151) (o := .cells #[.int .i64 a0_0, .slice A0_1 l0_1.length c0_1, .int .i64 a0_2, .bool a0_3, .slice A0_4 l0_4.length c0_4, .slice A0_5 l0_5.length c0_5, .int .i64 a0_6, .int .i64 a0_7, .string a0_8, .slice A0_9 l0_9.length c0_9, .int .i64 a0_10, .int .i64 a0_11, .slice A0_12 l0_12.length c0_12] 42 (0, 0)) (by exact BK151.out)) : gb151 ≠ gb152)); have n6_ := Aside0.mk ((by rw [hg]; exact Nat.ne_of_gt (blk_lt (g := gb151) (o := .cells #[.int .i64 a0_0, .slice A0_1 l0_1.length c0_1, .int .i64 a0_2, .bool a0_3, .slice A0_4 l0_4.length c0_4, .slice A0_5 l0_5.length c0_5, .int .i64 a0_6, .int .i64 a0_7, .string a0_8, .slice A0_9 l0_9.length c0_9, .int .i64 a0_10, .int .i64 a0_11, .slice A0_12 l0_12.length c0_12] 42 (0, 0)) (by exact BK151.out)) : gb152 ≠ gb151)); clear BK151; clear HB; have BK151 := n0_; have HB := n1_; have BK152 := n2_; have GW152 := n3_; have GE152 := n4_; have NB151_152 := n5_; have NB152_151 := n6_; clear n0_ n1_ n2_ n3_ n4_ n5_ n6_; clear hb hbox hg; have hnb17 := NB151_152.out; have hnc17 := NB152_151.out; have hcz18_0 : w16.cell? ⟨gb151, 0, none⟩ = some (.int .i64 a0_0) := (blk_cell BK151.out 0).trans rfl; have hcz18_1 : w16.cell? ⟨gb151, 1, none⟩ = some (.slice A0_1 l0_1.length c0_1) := (blk_cell BK151.out 1).trans rfl; have hcz18_2 : w16.cell? ⟨gb151, 2, none⟩ = some (.int .i64 a0_2) := (blk_cell BK151.out 2).trans rfl; have hcz18_3 : w16.cell? ⟨gb151, 3, none⟩ = some (.bool a0_3) := (blk_cell BK151.out 3).trans rfl; have hcz18_4 : w16.cell? ⟨gb151, 4, none⟩ = some (.slice A0_4 l0_4.length c0_4) := (blk_cell BK151.out 4).trans rfl; have hcz18_5 : w16.cell? ⟨gb151, 5, none⟩ = some (.slice A0_5 l0_5.length c0_5) := (blk_cell BK151.out 5).trans rfl; have hcz18_6 : w16.cell? ⟨gb151, 6, none⟩ = some (.int .i64 a0_6) := (blk_cell BK151.out 6).trans rfl; have hcz18_7 : w16.cell? ⟨gb151, 7, none⟩ = some (.int .i64 a0_7) := (blk_cell BK151.out 7).trans rfl; have hcz18_8 : w16.cell? ⟨gb151, 8, none⟩ = some (.string a0_8) := (blk_cell BK151.out 8).trans rfl; have hcz18_9 : w16.cell? ⟨gb151, 9, none⟩ = some (.slice A0_9 l0_9.length c0_9) := (blk_cell BK151.out 9).trans rfl; have hcz18_10 : w16.cell? ⟨gb151, 10, none⟩ = some (.int .i64 a0_10) := (blk_cell BK151.out 10).trans rfl; have hcz18_11 : w16.cell? ⟨gb151, 11, none⟩ = some (.int .i64 a0_11) := (blk_cell BK151.out 11).trans rfl; have hcz18_12 : w16.cell? ⟨gb151, 12, none⟩ = some (.slice A0_12 l0_12.length c0_12) := (blk_cell BK151.out 12).trans rfl; have hfz18_0 := blk_frozen BK151.out 0; have hfz18_1 := blk_frozen BK151.out 1; have hfz18_2 := blk_frozen BK151.out 2; have hfz18_3 := blk_frozen BK151.out 3; have hfz18_4 := blk_frozen BK151.out 4; have hfz18_5 := blk_frozen BK151.out 5; have hfz18_6 := blk_frozen BK151.out 6; have hfz18_7 := blk_frozen BK151.out 7; have hfz18_8 := blk_frozen BK151.out 8; have hfz18_9 := blk_frozen BK151.out 9; have hfz18_10 := blk_frozen BK151.out 10; have hfz18_11 := blk_frozen BK151.out 11; have hfz18_12 := blk_frozen BK151.out 12; have hcz19_0 : w16.cell? ⟨gb152, 0, none⟩ = some (.int .i64 a1_0) := (blk_cell BK152.out 0).trans rfl; have hcz19_1 : w16.cell? ⟨gb152, 1, none⟩ = some (.slice A1_1 l1_1.length c1_1) := (blk_cell BK152.out 1).trans rfl; have hcz19_2 : w16.cell? ⟨gb152, 2, none⟩ = some (.int .i64 a1_2) := (blk_cell BK152.out 2).trans rfl; have hcz19_3 : w16.cell? ⟨gb152, 3, none⟩ = some (.bool a1_3) := (blk_cell BK152.out 3).trans rfl; have hcz19_4 : w16.cell? ⟨gb152, 4, none⟩ = some (.slice A1_4 l1_4.length c1_4) := (blk_cell BK152.out 4).trans rfl; have hcz19_5 : w16.cell? ⟨gb152, 5, none⟩ = some (.slice A1_5 l1_5.length c1_5) := (blk_cell BK152.out 5).trans rfl; have hcz19_6 : w16.cell? ⟨gb152, 6, none⟩ = some (.int .i64 a1_6) := (blk_cell BK152.out 6).trans rfl; have hcz19_7 : w16.cell? ⟨gb152, 7, none⟩ = some (.int .i64 a1_7) := (blk_cell BK152.out 7).trans rfl; have hcz19_8 : w16.cell? ⟨gb152, 8, none⟩ = some (.string a1_8) := (blk_cell BK152.out 8).trans rfl; have hcz19_9 : w16.cell? ⟨gb152, 9, none⟩ = some (.slice A1_9 l1_9.length c1_9) := (blk_cell BK152.out 9).trans rfl; have hcz19_10 : w16.cell? ⟨gb152, 10, none⟩ = some (.int .i64 a1_10) := (blk_cell BK152.out 10).trans rfl; have hcz19_11 : w16.cell? ⟨gb152, 11, none⟩ = some (.int .i64 a1_11) := (blk_cell BK152.out 11).trans rfl; have hcz19_12 : w16.cell? ⟨gb152, 12, none⟩ = some (.slice A1_12 l1_12.length c1_12) := (blk_cell BK152.out 12).trans rfl; have hfz19_0 := blk_frozen BK152.out 0; have hfz19_1 := blk_frozen BK152.out 1; have hfz19_2 := blk_frozen BK152.out 2; have hfz19_3 := blk_frozen BK152.out 3; have hfz19_4 := blk_frozen BK152.out 4; have hfz19_5 := blk_frozen BK152.out 5; have hfz19_6 := blk_frozen BK152.out 6; have hfz19_7 := blk_frozen BK152.out 7; have hfz19_8 := blk_frozen BK152.out 8; have hfz19_9 := blk_frozen BK152.out 9; have hfz19_10 := blk_frozen BK152.out 10; have hfz19_11 := blk_frozen BK152.out 11; have hfz19_12 := blk_frozen BK152.out 12) | ((with_reducible refine gate_callee (f := 19) rfl ?_); refine goesL_ (some 7) rfl rfl Try.func19 (by kernel_rfl) rfl #[.agg #[.int .i64 a0_0, .slice A0_1 l0_1.length c0_1, .int .i64 a0_2, .bool a0_3, .slice A0_4 l0_4.length c0_4, .slice A0_5 l0_5.length c0_5, .int .i64 a0_6, .int .i64 a0_7, .string a0_8, .slice A0_9 l0_9.length c0_9, .int .i64 a0_10, .int .i64 a0_11, .slice A0_12 l0_12.length c0_12], .agg #[.int .i64 a1_0, .slice A1_1 l1_1.length c1_1, .int .i64 a1_2, .bool a1_3, .slice A1_4 l1_4.length c1_4, .slice A1_5 l1_5.length c1_5, .int .i64 a1_6, .int .i64 a1_7, .string a1_8, .slice A1_9 l1_9.length c1_9, .int .i64 a1_10, .int .i64 a1_11, .slice A1_12 l1_12.length c1_12]] rfl (by (try simp only [List.map_toArray, List.map_cons, List.map_nil]); (rfl)) ?_; (with_reducible refine (notaryref35_Same.calls k a0_0 _ _ l0_1 a0_2 a0_3 _ _ l0_4 _ _ l0_5 a0_6 a0_7 a0_8 _ _ l0_9 a0_10 a0_11 _ _ l0_12 a1_0 _ _ l1_1 a1_2 a1_3 _ _ l1_4 _ _ l1_5 a1_6 a1_7 a1_8 _ _ l1_9 a1_10 a1_11 _ _ l1_12 false _ ?side1 ?side2 ?side3 ?side4 ?side5 ?side6 ?side7 ?side8 ?side9 ?side10 ?side11 ?side12 ?side13 ?side14 ?side15 ?side16 ?side17 ?side18 ?side19 ?side20 A3.out).mono ?_); (case side1 => exact Kd.C_below HR0_1.out HB.out); (case side2 => exact HC0_1.out); (case side3 => exact Kd.C_below HR0_4.out HB.out); (case side4 => exact HC0_4.out); (case side5 => exact Kd.C_below HR0_5.out HB.out); (case side6 => exact HC0_5.out); (case side7 => exact Kd.C_below HR0_9.out HB.out); (case side8 => exact HC0_9.out); (case side9 => exact Kd.C_below HR0_12.out HB.out); (case side10 => exact HC0_12.out); (case side11 => exact Kd.C_below HR1_1.out HB.out); (case side12 => exact HC1_1.out); (case side13 => exact Kd.C_below HR1_4.out HB.out); (case side14 => exact HC1_4.out); (case side15 => exact Kd.C_below HR1_5.out HB.out); (case side16 => exact HC1_5.out); (case side17 => exact Kd.C_below HR1_9.out HB.out); (case side18 => exact HC1_9.out); (case side19 => exact Kd.C_below HR1_12.out HB.out); (case side20 => exact HC1_12.out); rintro e w20 ⟨rfl, hb⟩; refine ⟨_, rfl, ?_⟩; have n0_ := Aside0.mk (blk_below (g := gb151) (o := .cells #[.int .i64 a0_0, .slice A0_1 l0_1.length c0_1, .int .i64 a0_2, .bool a0_3, .slice A0_4 l0_4.length c0_4, .slice A0_5 l0_5.length c0_5, .int .i64 a0_6, .int .i64 a0_7, .string a0_8, .slice A0_9 l0_9.length c0_9, .int .i64 a0_10, .int .i64 a0_11, .slice A0_12 l0_12.length c0_12] 42 (0, 0)) (by exact BK151.out) hb); have n1_ := Aside0.mk (blk_below (g := gb152) (o := .cells #[.int .i64 a1_0, .slice A1_1 l1_1.length c1_1, .int .i64 a1_2, .bool a1_3, .slice A1_4 l1_4.length c1_4, .slice A1_5 l1_5.length c1_5, .int .i64 a1_6, .int .i64 a1_7, .string a1_8, .slice A1_9 l1_9.length c1_9, .int .i64 a1_10, .int .i64 a1_11, .slice A1_12 l1_12.length c1_12] 42 (0, 0)) (by exact BK152.out) hb); have n2_ := Aside0.mk (below_step HB.out hb); clear BK151; clear BK152; clear HB; have BK151 := n0_; have BK152 := n1_; have HB := n2_; clear n0_ n1_ n2_; (try clear hb); (skip)))
    go_ret
    exact ⟨by (rfl), HB.out⟩

  subst c4
  have H1 : ((notaryref06_Placed.f k a0_6 a0_7 a0_8 l0_9 a0_10 a0_11 a1_6 a1_7 a1_8 l1_9 a1_10 a1_11).bind fun t154 => (some t154)) = some r := by rw [if_pos rfl] at H; exact H
  clear H
  have H := H1
  clear H1
  replace H := Option.bind_eq_some_iff.mp H
  obtain ⟨t154, A50, H⟩ := H
  replace H : (some t154) = some r := H
  have A5 := Aside0.mk A50
  clear A50
  obtain rfl := Option.some.inj H
  go_enter Try.func20, Try.ntmps20
  go_wp2_with (first | ((with_reducible refine gate_dst (N := 2) rfl ?_); refine box_event ?hg (N := 2) ?hd (cs := #[.int .i64 a0_0, .slice A0_1 l0_1.length c0_1, .int .i64 a0_2, .bool a0_3, .slice A0_4 l0_4.length c0_4, .slice A0_5 l0_5.length c0_5, .int .i64 a0_6, .int .i64 a0_7, .string a0_8, .slice A0_9 l0_9.length c0_9, .int .i64 a0_10, .int .i64 a0_11, .slice A0_12 l0_12.length c0_12]) (t := 42) ?hr ?_; (case hd => rfl); (case hg => rfl); (case hr => (go_simp; done)); intro gb151 hg w6 hbox hb; have n0_ := Aside0.mk (below_step HB.out hb); have n1_ := Aside0.mk (hbox); have n2_ := Aside0.mk ((by rw [hg]; exact (below_size HB.out) : w.heap.size ≤ gb151)); have n3_ := Aside0.mk ((by rw [hg]; exact (below_size HB.out) : w.heap.size ≤ gb151)); clear HB; have HB := n0_; have BK151 := n1_; have GW151 := n2_; have GE151 := n3_; clear n0_ n1_ n2_ n3_; clear hb hbox hg) | ((with_reducible refine gate_dst (N := 3) rfl ?_); refine box_event ?hg (N := 3) ?hd (cs := #[.int .i64 a1_0, .slice A1_1 l1_1.length c1_1, .int .i64 a1_2, .bool a1_3, .slice A1_4 l1_4.length c1_4, .slice A1_5 l1_5.length c1_5, .int .i64 a1_6, .int .i64 a1_7, .string a1_8, .slice A1_9 l1_9.length c1_9, .int .i64 a1_10, .int .i64 a1_11, .slice A1_12 l1_12.length c1_12]) (t := 42) ?hr ?_; (case hd => rfl); (case hg => rfl); (case hr => (go_simp; done)); intro gb152 hg w7 hbox hb; have n0_ := Aside0.mk (blk_below (g := gb151) (o := .cells #[.int .i64 a0_0, .slice A0_1 l0_1.length c0_1, .int .i64 a0_2, .bool a0_3, .slice A0_4 l0_4.length c0_4, .slice A0_5 l0_5.length c0_5, .int .i64 a0_6, .int .i64 a0_7, .string a0_8, .slice A0_9 l0_9.length c0_9, .int .i64 a0_10, .int .i64 a0_11, .slice A0_12 l0_12.length c0_12] 42 (0, 0)) (by exact BK151.out) hb); have n1_ := Aside0.mk (below_step HB.out hb); have n2_ := Aside0.mk (hbox); have n3_ := Aside0.mk ((by rw [hg]; exact (below_size HB.out) : w.heap.size ≤ gb152)); have n4_ := Aside0.mk ((by rw [hg]; exact (below_size HB.out) : w.heap.size ≤ gb152)); have n5_ := Aside0.mk ((by rw [hg]; exact Nat.ne_of_lt (blk_lt (g := gb151) (o := .cells #[.int .i64 a0_0, .slice A0_1 l0_1.length c0_1, .int .i64 a0_2, .bool a0_3, .slice A0_4 l0_4.length c0_4, .slice A0_5 l0_5.length c0_5, .int .i64 a0_6, .int .i64 a0_7, .string a0_8, .slice A0_9 l0_9.length c0_9, .int .i64 a0_10, .int .i64 a0_11, .slice A0_12 l0_12.length c0_12] 42 (0, 0)) (by exact BK151.out)) : gb151 ≠ gb152)); have n6_ := Aside0.mk ((by rw [hg]; exact Nat.ne_of_gt (blk_lt (g := gb151) (o := .cells #[.int .i64 a0_0, .slice A0_1 l0_1.length c0_1, .int .i64 a0_2, .bool a0_3, .slice A0_4 l0_4.length c0_4, .slice A0_5 l0_5.length c0_5, .int .i64 a0_6, .int .i64 a0_7, .string a0_8, .slice A0_9 l0_9.length c0_9, .int .i64 a0_10, .int .i64 a0_11, .slice A0_12 l0_12.length c0_12] 42 (0, 0)) (by exact BK151.out)) : gb152 ≠ gb151)); clear BK151; clear HB; have BK151 := n0_; have HB := n1_; have BK152 := n2_; have GW152 := n3_; have GE152 := n4_; have NB151_152 := n5_; have NB152_151 := n6_; clear n0_ n1_ n2_ n3_ n4_ n5_ n6_; clear hb hbox hg; have hnb8 := NB151_152.out; have hnc8 := NB152_151.out; have hcz9_0 : w7.cell? ⟨gb151, 0, none⟩ = some (.int .i64 a0_0) := (blk_cell BK151.out 0).trans rfl; have hcz9_1 : w7.cell? ⟨gb151, 1, none⟩ = some (.slice A0_1 l0_1.length c0_1) := (blk_cell BK151.out 1).trans rfl; have hcz9_2 : w7.cell? ⟨gb151, 2, none⟩ = some (.int .i64 a0_2) := (blk_cell BK151.out 2).trans rfl; have hcz9_3 : w7.cell? ⟨gb151, 3, none⟩ = some (.bool a0_3) := (blk_cell BK151.out 3).trans rfl; have hcz9_4 : w7.cell? ⟨gb151, 4, none⟩ = some (.slice A0_4 l0_4.length c0_4) := (blk_cell BK151.out 4).trans rfl; have hcz9_5 : w7.cell? ⟨gb151, 5, none⟩ = some (.slice A0_5 l0_5.length c0_5) := (blk_cell BK151.out 5).trans rfl; have hcz9_6 : w7.cell? ⟨gb151, 6, none⟩ = some (.int .i64 a0_6) := (blk_cell BK151.out 6).trans rfl; have hcz9_7 : w7.cell? ⟨gb151, 7, none⟩ = some (.int .i64 a0_7) := (blk_cell BK151.out 7).trans rfl; have hcz9_8 : w7.cell? ⟨gb151, 8, none⟩ = some (.string a0_8) := (blk_cell BK151.out 8).trans rfl; have hcz9_9 : w7.cell? ⟨gb151, 9, none⟩ = some (.slice A0_9 l0_9.length c0_9) := (blk_cell BK151.out 9).trans rfl; have hcz9_10 : w7.cell? ⟨gb151, 10, none⟩ = some (.int .i64 a0_10) := (blk_cell BK151.out 10).trans rfl; have hcz9_11 : w7.cell? ⟨gb151, 11, none⟩ = some (.int .i64 a0_11) := (blk_cell BK151.out 11).trans rfl; have hcz9_12 : w7.cell? ⟨gb151, 12, none⟩ = some (.slice A0_12 l0_12.length c0_12) := (blk_cell BK151.out 12).trans rfl; have hfz9_0 := blk_frozen BK151.out 0; have hfz9_1 := blk_frozen BK151.out 1; have hfz9_2 := blk_frozen BK151.out 2; have hfz9_3 := blk_frozen BK151.out 3; have hfz9_4 := blk_frozen BK151.out 4; have hfz9_5 := blk_frozen BK151.out 5; have hfz9_6 := blk_frozen BK151.out 6; have hfz9_7 := blk_frozen BK151.out 7; have hfz9_8 := blk_frozen BK151.out 8; have hfz9_9 := blk_frozen BK151.out 9; have hfz9_10 := blk_frozen BK151.out 10; have hfz9_11 := blk_frozen BK151.out 11; have hfz9_12 := blk_frozen BK151.out 12; have hcz10_0 : w7.cell? ⟨gb152, 0, none⟩ = some (.int .i64 a1_0) := (blk_cell BK152.out 0).trans rfl; have hcz10_1 : w7.cell? ⟨gb152, 1, none⟩ = some (.slice A1_1 l1_1.length c1_1) := (blk_cell BK152.out 1).trans rfl; have hcz10_2 : w7.cell? ⟨gb152, 2, none⟩ = some (.int .i64 a1_2) := (blk_cell BK152.out 2).trans rfl; have hcz10_3 : w7.cell? ⟨gb152, 3, none⟩ = some (.bool a1_3) := (blk_cell BK152.out 3).trans rfl; have hcz10_4 : w7.cell? ⟨gb152, 4, none⟩ = some (.slice A1_4 l1_4.length c1_4) := (blk_cell BK152.out 4).trans rfl; have hcz10_5 : w7.cell? ⟨gb152, 5, none⟩ = some (.slice A1_5 l1_5.length c1_5) := (blk_cell BK152.out 5).trans rfl; have hcz10_6 : w7.cell? ⟨gb152, 6, none⟩ = some (.int .i64 a1_6) := (blk_cell BK152.out 6).trans rfl; have hcz10_7 : w7.cell? ⟨gb152, 7, none⟩ = some (.int .i64 a1_7) := (blk_cell BK152.out 7).trans rfl; have hcz10_8 : w7.cell? ⟨gb152, 8, none⟩ = some (.string a1_8) := (blk_cell BK152.out 8).trans rfl; have hcz10_9 : w7.cell? ⟨gb152, 9, none⟩ = some (.slice A1_9 l1_9.length c1_9) := (blk_cell BK152.out 9).trans rfl; have hcz10_10 : w7.cell? ⟨gb152, 10, none⟩ = some (.int .i64 a1_10) := (blk_cell BK152.out 10).trans rfl; have hcz10_11 : w7.cell? ⟨gb152, 11, none⟩ = some (.int .i64 a1_11) := (blk_cell BK152.out 11).trans rfl; have hcz10_12 : w7.cell? ⟨gb152, 12, none⟩ = some (.slice A1_12 l1_12.length c1_12) := (blk_cell BK152.out 12).trans rfl; have hfz10_0 := blk_frozen BK152.out 0; have hfz10_1 := blk_frozen BK152.out 1; have hfz10_2 := blk_frozen BK152.out 2; have hfz10_3 := blk_frozen BK152.out 3; have hfz10_4 := blk_frozen BK152.out 4; have hfz10_5 := blk_frozen BK152.out 5; have hfz10_6 := blk_frozen BK152.out 6; have hfz10_7 := blk_frozen BK152.out 7; have hfz10_8 := blk_frozen BK152.out 8; have hfz10_9 := blk_frozen BK152.out 9; have hfz10_10 := blk_frozen BK152.out 10; have hfz10_11 := blk_frozen BK152.out 11; have hfz10_12 := blk_frozen BK152.out 12) | ((with_reducible refine gate_callee (f := 19) rfl ?_); refine goesL_ (some 7) rfl rfl Try.func19 (by kernel_rfl) rfl #[.agg #[.int .i64 a0_0, .slice A0_1 l0_1.length c0_1, .int .i64 a0_2, .bool a0_3, .slice A0_4 l0_4.length c0_4, .slice A0_5 l0_5.length c0_5, .int .i64 a0_6, .int .i64 a0_7, .string a0_8, .slice A0_9 l0_9.length c0_9, .int .i64 a0_10, .int .i64 a0_11, .slice A0_12 l0_12.length c0_12], .agg #[.int .i64 a1_0, .slice A1_1 l1_1.length c1_1, .int .i64 a1_2, .bool a1_3, .slice A1_4 l1_4.length c1_4, .slice A1_5 l1_5.length c1_5, .int .i64 a1_6, .int .i64 a1_7, .string a1_8, .slice A1_9 l1_9.length c1_9, .int .i64 a1_10, .int .i64 a1_11, .slice A1_12 l1_12.length c1_12]] rfl (by (try simp only [List.map_toArray, List.map_cons, List.map_nil]); (rfl)) ?_; (with_reducible refine (notaryref35_Same.calls k a0_0 _ _ l0_1 a0_2 a0_3 _ _ l0_4 _ _ l0_5 a0_6 a0_7 a0_8 _ _ l0_9 a0_10 a0_11 _ _ l0_12 a1_0 _ _ l1_1 a1_2 a1_3 _ _ l1_4 _ _ l1_5 a1_6 a1_7 a1_8 _ _ l1_9 a1_10 a1_11 _ _ l1_12 true _ ?side1 ?side2 ?side3 ?side4 ?side5 ?side6 ?side7 ?side8 ?side9 ?side10 ?side11 ?side12 ?side13 ?side14 ?side15 ?side16 ?side17 ?side18 ?side19 ?side20 A3.out).mono ?_); (case side1 => exact Kd.C_below HR0_1.out HB.out); (case side2 => exact HC0_1.out); (case side3 => exact Kd.C_below HR0_4.out HB.out); (case side4 => exact HC0_4.out); (case side5 => exact Kd.C_below HR0_5.out HB.out); (case side6 => exact HC0_5.out); (case side7 => exact Kd.C_below HR0_9.out HB.out); (case side8 => exact HC0_9.out); (case side9 => exact Kd.C_below HR0_12.out HB.out); (case side10 => exact HC0_12.out); (case side11 => exact Kd.C_below HR1_1.out HB.out); (case side12 => exact HC1_1.out); (case side13 => exact Kd.C_below HR1_4.out HB.out); (case side14 => exact HC1_4.out); (case side15 => exact Kd.C_below HR1_5.out HB.out); (case side16 => exact HC1_5.out); (case side17 => exact Kd.C_below HR1_9.out HB.out); (case side18 => exact HC1_9.out); (case side19 => exact Kd.C_below HR1_12.out HB.out); (case side20 => exact HC1_12.out); rintro e w11 ⟨rfl, hb⟩; refine ⟨_, rfl, ?_⟩; have n0_ := Aside0.mk (blk_below (g := gb151) (o := .cells #[.int .i64 a0_0, .slice A0_1 l0_1.length c0_1, .int .i64 a0_2, .bool a0_3, .slice A0_4 l0_4.length c0_4, .slice A0_5 l0_5.length c0_5, .int .i64 a0_6, .int .i64 a0_7, .string a0_8, .slice A0_9 l0_9.length c0_9, .int .i64 a0_10, .int .i64 a0_11, .slice A0_12 l0_12.length c0_12] 42 (0, 0)) (by exact BK151.out) hb); have n1_ := Aside0.mk (blk_below (g := gb152) (o := .cells #[.int .i64 a1_0, .slice A1_1 l1_1.length c1_1, .int .i64 a1_2, .bool a1_3, .slice A1_4 l1_4.length c1_4, .slice A1_5 l1_5.length c1_5, .int .i64 a1_6, .int .i64 a1_7, .string a1_8, .slice A1_9 l1_9.length c1_9, .int .i64 a1_10, .int .i64 a1_11, .slice A1_12 l1_12.length c1_12] 42 (0, 0)) (by exact BK152.out) hb); have n2_ := Aside0.mk (below_step HB.out hb); clear BK151; clear BK152; clear HB; have BK151 := n0_; have BK152 := n1_; have HB := n2_; clear n0_ n1_ n2_; (try clear hb); have hcz12_0 : w11.cell? ⟨gb151, 0, none⟩ = some (.int .i64 a0_0) := (blk_cell BK151.out 0).trans rfl; have hcz12_1 : w11.cell? ⟨gb151, 1, none⟩ = some (.slice A0_1 l0_1.length c0_1) := (blk_cell BK151.out 1).trans rfl; have hcz12_2 : w11.cell? ⟨gb151, 2, none⟩ = some (.int .i64 a0_2) := (blk_cell BK151.out 2).trans rfl; have hcz12_3 : w11.cell? ⟨gb151, 3, none⟩ = some (.bool a0_3) := (blk_cell BK151.out 3).trans rfl; have hcz12_4 : w11.cell? ⟨gb151, 4, none⟩ = some (.slice A0_4 l0_4.length c0_4) := (blk_cell BK151.out 4).trans rfl; have hcz12_5 : w11.cell? ⟨gb151, 5, none⟩ = some (.slice A0_5 l0_5.length c0_5) := (blk_cell BK151.out 5).trans rfl; have hcz12_6 : w11.cell? ⟨gb151, 6, none⟩ = some (.int .i64 a0_6) := (blk_cell BK151.out 6).trans rfl; have hcz12_7 : w11.cell? ⟨gb151, 7, none⟩ = some (.int .i64 a0_7) := (blk_cell BK151.out 7).trans rfl; have hcz12_8 : w11.cell? ⟨gb151, 8, none⟩ = some (.string a0_8) := (blk_cell BK151.out 8).trans rfl; have hcz12_9 : w11.cell? ⟨gb151, 9, none⟩ = some (.slice A0_9 l0_9.length c0_9) := (blk_cell BK151.out 9).trans rfl; have hcz12_10 : w11.cell? ⟨gb151, 10, none⟩ = some (.int .i64 a0_10) := (blk_cell BK151.out 10).trans rfl; have hcz12_11 : w11.cell? ⟨gb151, 11, none⟩ = some (.int .i64 a0_11) := (blk_cell BK151.out 11).trans rfl; have hcz12_12 : w11.cell? ⟨gb151, 12, none⟩ = some (.slice A0_12 l0_12.length c0_12) := (blk_cell BK151.out 12).trans rfl; have hfz12_0 := blk_frozen BK151.out 0; have hfz12_1 := blk_frozen BK151.out 1; have hfz12_2 := blk_frozen BK151.out 2; have hfz12_3 := blk_frozen BK151.out 3; have hfz12_4 := blk_frozen BK151.out 4; have hfz12_5 := blk_frozen BK151.out 5; have hfz12_6 := blk_frozen BK151.out 6; have hfz12_7 := blk_frozen BK151.out 7; have hfz12_8 := blk_frozen BK151.out 8; have hfz12_9 := blk_frozen BK151.out 9; have hfz12_10 := blk_frozen BK151.out 10; have hfz12_11 := blk_frozen BK151.out 11; have hfz12_12 := blk_frozen BK151.out 12; have hcz13_0 : w11.cell? ⟨gb152, 0, none⟩ = some (.int .i64 a1_0) := (blk_cell BK152.out 0).trans rfl; have hcz13_1 : w11.cell? ⟨gb152, 1, none⟩ = some (.slice A1_1 l1_1.length c1_1) := (blk_cell BK152.out 1).trans rfl; have hcz13_2 : w11.cell? ⟨gb152, 2, none⟩ = some (.int .i64 a1_2) := (blk_cell BK152.out 2).trans rfl; have hcz13_3 : w11.cell? ⟨gb152, 3, none⟩ = some (.bool a1_3) := (blk_cell BK152.out 3).trans rfl; have hcz13_4 : w11.cell? ⟨gb152, 4, none⟩ = some (.slice A1_4 l1_4.length c1_4) := (blk_cell BK152.out 4).trans rfl; have hcz13_5 : w11.cell? ⟨gb152, 5, none⟩ = some (.slice A1_5 l1_5.length c1_5) := (blk_cell BK152.out 5).trans rfl; have hcz13_6 : w11.cell? ⟨gb152, 6, none⟩ = some (.int .i64 a1_6) := (blk_cell BK152.out 6).trans rfl; have hcz13_7 : w11.cell? ⟨gb152, 7, none⟩ = some (.int .i64 a1_7) := (blk_cell BK152.out 7).trans rfl; have hcz13_8 : w11.cell? ⟨gb152, 8, none⟩ = some (.string a1_8) := (blk_cell BK152.out 8).trans rfl; have hcz13_9 : w11.cell? ⟨gb152, 9, none⟩ = some (.slice A1_9 l1_9.length c1_9) := (blk_cell BK152.out 9).trans rfl; have hcz13_10 : w11.cell? ⟨gb152, 10, none⟩ = some (.int .i64 a1_10) := (blk_cell BK152.out 10).trans rfl; have hcz13_11 : w11.cell? ⟨gb152, 11, none⟩ = some (.int .i64 a1_11) := (blk_cell BK152.out 11).trans rfl; have hcz13_12 : w11.cell? ⟨gb152, 12, none⟩ = some (.slice A1_12 l1_12.length c1_12) := (blk_cell BK152.out 12).trans rfl; have hfz13_0 := blk_frozen BK152.out 0; have hfz13_1 := blk_frozen BK152.out 1; have hfz13_2 := blk_frozen BK152.out 2; have hfz13_3 := blk_frozen BK152.out 3; have hfz13_4 := blk_frozen BK152.out 4; have hfz13_5 := blk_frozen BK152.out 5; have hfz13_6 := blk_frozen BK152.out 6; have hfz13_7 := blk_frozen BK152.out 7; have hfz13_8 := blk_frozen BK152.out 8; have hfz13_9 := blk_frozen BK152.out 9; have hfz13_10 := blk_frozen BK152.out 10; have hfz13_11 := blk_frozen BK152.out 11; have hfz13_12 := blk_frozen BK152.out 12) | (go_at_call 14; (with_reducible refine (notaryref06_Placed.calls k a0_6 a0_7 a0_8 _ _ l0_9 a0_10 a0_11 a1_6 a1_7 a1_8 _ _ l1_9 a1_10 a1_11 t154 _ ?side1 ?side2 ?side3 ?side4 A5.out).mono ?_); (case side1 => exact Kd.C_below HR0_9.out HB.out); (case side2 => exact HC0_9.out); (case side3 => exact Kd.C_below HR1_9.out HB.out); (case side4 => exact HC1_9.out); rintro e w14 ⟨rfl, hb⟩; have n0_ := Aside0.mk (blk_below (g := gb151) (o := .cells #[.int .i64 a0_0, .slice A0_1 l0_1.length c0_1, .int .i64 a0_2, .bool a0_3, .slice A0_4 l0_4.length c0_4, .slice A0_5 l0_5.length c0_5, .int .i64 a0_6, .int .i64 a0_7, .string a0_8, .slice A0_9 l0_9.length c0_9, .int .i64 a0_10, .int .i64 a0_11, .slice A0_12 l0_12.length c0_12] 42 (0, 0)) (by exact BK151.out) hb); have n1_ := Aside0.mk (blk_below (g := gb152) (o := .cells #[.int .i64 a1_0, .slice A1_1 l1_1.length c1_1, .int .i64 a1_2, .bool a1_3, .slice A1_4 l1_4.length c1_4, .slice A1_5 l1_5.length c1_5, .int .i64 a1_6, .int .i64 a1_7, .string a1_8, .slice A1_9 l1_9.length c1_9, .int .i64 a1_10, .int .i64 a1_11, .slice A1_12 l1_12.length c1_12] 42 (0, 0)) (by exact BK152.out) hb); have n2_ := Aside0.mk (below_step HB.out hb); clear BK151; clear BK152; clear HB; have BK151 := n0_; have BK152 := n1_; have HB := n2_; clear n0_ n1_ n2_; (try clear hb); (skip)))
  go_ret
  exact ⟨by (rfl), HB.out⟩
end Go.Proofs.Ytiamcmjdoobaeaa.PCe
