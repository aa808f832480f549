-- SLIM: a printed text of which the unused ways are cut off
-- PRINTED by print.py (a twelfth state) out of the translation. Not trusted: Lean checks it.
import Derived.Test.YtiamcmjdoobaeaaPCex0
namespace Go.Proofs.Ytiamcmjdoobaeaa.PCe
open Go.RowKit Go.Proofs.YtiamcmjdoobaeaaW.PrintWords Go.Proofs.YtiamcmjdoobaeaaW.PrintLast Go.Proofs.YtiamcmjdoobaeaaW.PrintMore
attribute [local go_sem] max2_int min2_int max_two min_two max_three min_three max_four min_four   -- for this text's walks alone
set_option linter.unusedVariables false
set_option linter.unusedSimpArgs false

/-! ### notaryref06_Placed: function 14 -/
mutual
def notaryref06_Placed.j0 : Nat → Bool → Int → Int → ByteArray → List (S25) → Int → Int → Int → Int → ByteArray → List (S25) → Int → Int → Option (Bool)
  | 0, _, _, _, _, _, _, _, _, _, _, _, _, _ => none
  | k + 1, x47, x129000, x129001, x129002, x129003, x129004, x129005, x130000, x130001, x130002, x130003, x130004, x130005 => if x47 = true then (some false) else (notaryref06_Placed.l0 k 0 x129000 x129001 x129002 x129003 x129004 x129005 x130000 x130001 x130002 x130003 x130004 x130005)
def notaryref06_Placed.l0 : Nat → Int → Int → Int → ByteArray → List (S25) → Int → Int → Int → Int → ByteArray → List (S25) → Int → Int → Option (Bool)
  | 0, _, _, _, _, _, _, _, _, _, _, _, _, _ => none
  | k + 1, x5, x129000, x129001, x129002, x129003, x129004, x129005, x130000, x130001, x130002, x130003, x130004, x130005 => if x5 < (x129003.length : Int) then (if 0 ≤ x5 then (if x5 < (x130003.length : Int) then ((notaryref06_Placed.f k ((rd_T25 x129003 x5).f0) ((rd_T25 x129003 x5).f1) ((rd_T25 x129003 x5).f2) ((rd_T25 x129003 x5).f3) ((rd_T25 x129003 x5).f4) ((rd_T25 x129003 x5).f5) ((rd_T25 x130003 x5).f0) ((rd_T25 x130003 x5).f1) ((rd_T25 x130003 x5).f2) ((rd_T25 x130003 x5).f3) ((rd_T25 x130003 x5).f4) ((rd_T25 x130003 x5).f5)).bind fun t132 => (if t132 = true then (notaryref06_Placed.l0 k (wrap64 (x5 + 1)) x129000 x129001 x129002 x129003 x129004 x129005 x130000 x130001 x130002 x130003 x130004 x130005) else (some false))) else (none)) else (none)) else (some true)
def notaryref06_Placed.f : Nat → Int → Int → ByteArray → List (S25) → Int → Int → Int → Int → ByteArray → List (S25) → Int → Int → Option (Bool)
  | 0, _, _, _, _, _, _, _, _, _, _, _, _ => none
  | k + 1, a0_0, a0_1, a0_2, l0_3, a0_4, a0_5, a1_0, a1_1, a1_2, l1_3, a1_4, a1_5 => if a0_0 = a1_0 then (if a0_1 = a1_1 then (if a0_2.toList = a1_2.toList then (if a0_4 = a1_4 then (if a0_5 = a1_5 then (notaryref06_Placed.j0 k ((l0_3.length : Int) != (l1_3.length : Int)) a0_0 a0_1 a0_2 l0_3 a0_4 a0_5 a1_0 a1_1 a1_2 l1_3 a1_4 a1_5) else (notaryref06_Placed.j0 k true a0_0 a0_1 a0_2 l0_3 a0_4 a0_5 a1_0 a1_1 a1_2 l1_3 a1_4 a1_5)) else (notaryref06_Placed.j0 k true a0_0 a0_1 a0_2 l0_3 a0_4 a0_5 a1_0 a1_1 a1_2 l1_3 a1_4 a1_5)) else (notaryref06_Placed.j0 k true a0_0 a0_1 a0_2 l0_3 a0_4 a0_5 a1_0 a1_1 a1_2 l1_3 a1_4 a1_5)) else (notaryref06_Placed.j0 k true a0_0 a0_1 a0_2 l0_3 a0_4 a0_5 a1_0 a1_1 a1_2 l1_3 a1_4 a1_5)) else (notaryref06_Placed.j0 k true a0_0 a0_1 a0_2 l0_3 a0_4 a0_5 a1_0 a1_1 a1_2 l1_3 a1_4 a1_5)
end
def notaryref06_Placed.T6 : Bool × List (List Nat × List Nat) := (true, [([], []), ([0], [0]), ([], []), ([1, 2], [1, 2]), ([3], [3]), ([], []), ([5], [5]), ([], []), ([6, 7], [6, 7]), ([8], [8]), ([4, 9], [4, 9]), ([10], [10])])
def notaryref06_Placed.B6 : List Nat := [0, 1, 0, 7, 15, 0, 32, 0, 224, 480, 1023, 2047]
theorem notaryref06_Placed.tab6 : rtab .any (opsOf Try.f14 6) = notaryref06_Placed.T6 := by kernel_rfl
theorem notaryref06_Placed.bits6 : waitsOk notaryref06_Placed.T6.2 notaryref06_Placed.B6 = true := by kernel_rfl
set_option maxHeartbeats 8000000 in
set_option maxRecDepth 100000 in
theorem notaryref06_Placed.calls (k : Nat) : ∀ (a0_0 : Int) (a0_1 : Int) (a0_2 : ByteArray) (A0_3 : Option Addr) (c0_3 : Nat) (l0_3 : List (S25)) (a0_4 : Int) (a0_5 : Int) (a1_0 : Int) (a1_1 : Int) (a1_2 : ByteArray) (A1_3 : Option Addr) (c1_3 : Nat) (l1_3 : List (S25)) (a1_4 : Int) (a1_5 : Int) (r : Bool) (w : World) (hr0_3 : Kd.C k25 w A0_3 l0_3.length l0_3) (hc0_3 : l0_3.length ≤ c0_3) (hr1_3 : Kd.C k25 w A1_3 l1_3.length l1_3) (hc1_3 : l1_3.length ≤ c1_3) (h : notaryref06_Placed.f k a0_0 a0_1 a0_2 l0_3 a0_4 a0_5 a1_0 a1_1 a1_2 l1_3 a1_4 a1_5 = some r),
    Calls Try.prog 14 #[.agg #[.int .i64 a0_0, .int .i64 a0_1, .string a0_2, .slice A0_3 l0_3.length c0_3, .int .i64 a0_4, .int .i64 a0_5], .agg #[.int .i64 a1_0, .int .i64 a1_1, .string a1_2, .slice A1_3 l1_3.length c1_3, .int .i64 a1_4, .int .i64 a1_5]] w fun e w' => e = .returned (.bool r) ∧ Below w.heap.size w w' := by
  induction k using Nat.strongRecOn with
  | _ k ih =>
  intro a0_0 a0_1 a0_2 A0_3 c0_3 l0_3 a0_4 a0_5 a1_0 a1_1 a1_2 A1_3 c1_3 l1_3 a1_4 a1_5 r w hr0_3 hc0_3 hr1_3 hc1_3 h
  cases k with
  | zero => exact absurd h (by simp [notaryref06_Placed.f])
  | succ k =>
  simp only [notaryref06_Placed.f] at h
  have hu25 := Try.underlying25
  have HR0_3 := Aside0.mk hr0_3
  have HC0_3 := Aside0.mk hc0_3
  clear hr0_3 hc0_3
  have HR1_3 := Aside0.mk hr1_3
  have HC1_3 := Aside0.mk hc1_3
  clear hr1_3 hc1_3
  have HB := Aside0.mk (Below.refl w.heap.size w)
  have H : (if a0_0 = a1_0 then (if a0_1 = a1_1 then (if a0_2.toList = a1_2.toList then (if a0_4 = a1_4 then (if a0_5 = a1_5 then (notaryref06_Placed.j0 k ((l0_3.length : Int) != (l1_3.length : Int)) a0_0 a0_1 a0_2 l0_3 a0_4 a0_5 a1_0 a1_1 a1_2 l1_3 a1_4 a1_5) else (notaryref06_Placed.j0 k true a0_0 a0_1 a0_2 l0_3 a0_4 a0_5 a1_0 a1_1 a1_2 l1_3 a1_4 a1_5)) else (notaryref06_Placed.j0 k true a0_0 a0_1 a0_2 l0_3 a0_4 a0_5 a1_0 a1_1 a1_2 l1_3 a1_4 a1_5)) else (notaryref06_Placed.j0 k true a0_0 a0_1 a0_2 l0_3 a0_4 a0_5 a1_0 a1_1 a1_2 l1_3 a1_4 a1_5)) else (notaryref06_Placed.j0 k true a0_0 a0_1 a0_2 l0_3 a0_4 a0_5 a1_0 a1_1 a1_2 l1_3 a1_4 a1_5)) else (notaryref06_Placed.j0 k true a0_0 a0_1 a0_2 l0_3 a0_4 a0_5 a1_0 a1_1 a1_2 l1_3 a1_4 a1_5)) = some r := h
  clear h
  have HC3 := Aside0.mk H
  clear H
  go_enter Try.func14, Try.ntmps14
  go_upto_region 1 with (first | ((with_reducible refine gate_dst (N := 2) rfl ?_); (try (refine gate_guard (by rfl) ?_; dsimp only)); refine box_event ?hg (N := 2) ?hd (cs := #[.int .i64 a0_0, .int .i64 a0_1, .string a0_2, .slice A0_3 l0_3.length c0_3, .int .i64 a0_4, .int .i64 a0_5]) (t := 25) ?hr ?_; (case hd => rfl); (case hg => rfl); (case hr => (go_simp; done)); intro gb128 hg w4 hbox hb; have n0_ := Aside0.mk (below_step HB.out hb); have n1_ := Aside0.mk (hbox); have n2_ := Aside0.mk ((by rw [hg]; exact (below_size HB.out) : w.heap.size ≤ gb128)); have n3_ := Aside0.mk ((by rw [hg]; exact (below_size HB.out) : w.heap.size ≤ gb128)); clear HB; have HB := n0_; have BK128 := n1_; have GW128 := n2_; have GE128 := n3_; clear n0_ n1_ n2_ n3_; clear hb hbox hg) | ((with_reducible refine gate_dst (N := 3) rfl ?_); (try (refine gate_guard (by rfl) ?_; dsimp only)); refine box_event ?hg (N := 3) ?hd (cs := #[.int .i64 a1_0, .int .i64 a1_1, .string a1_2, .slice A1_3 l1_3.length c1_3, .int .i64 a1_4, .int .i64 a1_5]) (t := 25) ?hr ?_; (case hd => rfl); (case hg => rfl); (case hr => (go_simp; done)); intro gb129 hg w5 hbox hb; have n0_ := Aside0.mk (blk_below (g := gb128) (o := .cells #[.int .i64 a0_0, .int .i64 a0_1, .string a0_2, .slice A0_3 l0_3.length c0_3, .int .i64 a0_4, .int .i64 a0_5] 25 (0, 0)) (by exact BK128.out) hb); have n1_ := Aside0.mk (below_step HB.out hb); have n2_ := Aside0.mk (hbox); have n3_ := Aside0.mk ((by rw [hg]; exact (below_size HB.out) : w.heap.size ≤ gb129)); have n4_ := Aside0.mk ((by rw [hg]; exact (below_size HB.out) : w.heap.size ≤ gb129)); have n5_ := Aside0.mk ((by rw [hg]; exact Nat.ne_of_lt (blk_lt (g := gb128) (o := .cells #[.int .i64 a0_0, .int .i64 a0_1, .string a0_2, .slice A0_3 l0_3.length c0_3, .int .i64 a0_4, .int .i64 a0_5] 25 (0, 0)) (by exact BK128.out)) : gb128 ≠ gb129)); have n6_ := Aside0.mk ((by rw [hg]; exact Nat.ne_of_gt (blk_lt (g := gb128) (o := .cells #[.int .i64 a0_0, .int .i64 a0_1, .string a0_2, .slice A0_3 l0_3.length c0_3, .int .i64 a0_4, .int .i64 a0_5] 25 (0, 0)) (by exact BK128.out)) : gb129 ≠ gb128)); clear BK128; clear HB; have BK128 := n0_; have HB := n1_; have BK129 := n2_; have GW129 := n3_; have GE129 := n4_; have NB128_129 := n5_; have NB129_128 := n6_; clear n0_ n1_ n2_ n3_ n4_ n5_ n6_; clear hb hbox hg))
  (skip)
  go_cut [47] (fun v47 wc => ∃ (kq : Nat) (x47_2 : Bool), v47 = .bool x47_2 ∧ Aside0 (notaryref06_Placed.j0 kq x47_2 a0_0 a0_1 a0_2 l0_3 a0_4 a0_5 a1_0 a1_1 a1_2 l1_3 a1_4 a1_5 = some r) ∧ Aside0 (kq ≤ k) ∧ Aside0 (wc.heap[gb128]? = some (.cells #[.int .i64 a0_0, .int .i64 a0_1, .string a0_2, (.slice A0_3 l0_3.length c0_3), .int .i64 a0_4, .int .i64 a0_5] 25 (0, 0))) ∧ Aside0 (wc.heap[gb129]? = some (.cells #[.int .i64 a1_0, .int .i64 a1_1, .string a1_2, (.slice A1_3 l1_3.length c1_3), .int .i64 a1_4, .int .i64 a1_5] 25 (0, 0))) ∧ Aside0 (Below w.heap.size w wc))
  case first =>
    have H := HC3.out
    clear HC3
    by_cases c6 : a0_0 = a1_0
    rotate_left
    · rw [if_neg c6] at H
      have c6b0 : (a0_0 == a1_0) = false := beq_eq_false_iff_ne.mpr c6
      have c6b1 : (a0_0 != a1_0) = true := bne_iff_ne.mpr c6
      (skip)
      have H' := Aside0.mk H
      clear H
      have hnb26 := NB128_129.out
      have hnc26 := NB129_128.out
      have hcz27_0 : w5.cell? ⟨gb128, 0, none⟩ = some (.int .i64 a0_0) := (blk_cell BK128.out 0).trans rfl
      have hcz27_1 : w5.cell? ⟨gb128, 1, none⟩ = some (.int .i64 a0_1) := (blk_cell BK128.out 1).trans rfl
      have hcz27_2 : w5.cell? ⟨gb128, 2, none⟩ = some (.string a0_2) := (blk_cell BK128.out 2).trans rfl
      have hcz27_3 : w5.cell? ⟨gb128, 3, none⟩ = some (.slice A0_3 l0_3.length c0_3) := (blk_cell BK128.out 3).trans rfl
      have hcz27_4 : w5.cell? ⟨gb128, 4, none⟩ = some (.int .i64 a0_4) := (blk_cell BK128.out 4).trans rfl
      have hcz27_5 : w5.cell? ⟨gb128, 5, none⟩ = some (.int .i64 a0_5) := (blk_cell BK128.out 5).trans rfl
      have hfz27_0 := blk_frozen BK128.out 0
      have hfz27_1 := blk_frozen BK128.out 1
      have hfz27_2 := blk_frozen BK128.out 2
      have hfz27_3 := blk_frozen BK128.out 3
      have hfz27_4 := blk_frozen BK128.out 4
      have hfz27_5 := blk_frozen BK128.out 5
      have hcz28_0 : w5.cell? ⟨gb129, 0, none⟩ = some (.int .i64 a1_0) := (blk_cell BK129.out 0).trans rfl
      have hcz28_1 : w5.cell? ⟨gb129, 1, none⟩ = some (.int .i64 a1_1) := (blk_cell BK129.out 1).trans rfl
      have hcz28_2 : w5.cell? ⟨gb129, 2, none⟩ = some (.string a1_2) := (blk_cell BK129.out 2).trans rfl
      have hcz28_3 : w5.cell? ⟨gb129, 3, none⟩ = some (.slice A1_3 l1_3.length c1_3) := (blk_cell BK129.out 3).trans rfl
      have hcz28_4 : w5.cell? ⟨gb129, 4, none⟩ = some (.int .i64 a1_4) := (blk_cell BK129.out 4).trans rfl
      have hcz28_5 : w5.cell? ⟨gb129, 5, none⟩ = some (.int .i64 a1_5) := (blk_cell BK129.out 5).trans rfl
      have hfz28_0 := blk_frozen BK129.out 0
      have hfz28_1 := blk_frozen BK129.out 1
      have hfz28_2 := blk_frozen BK129.out 2
      have hfz28_3 := blk_frozen BK129.out 3
      have hfz28_4 := blk_frozen BK129.out 4
      have hfz28_5 := blk_frozen BK129.out 5
      go_wp2
      go_meet
      case rel => exact ⟨_, (true), (by (rfl)), H', ⟨by (omega)⟩, ⟨by exact BK128.out⟩, ⟨by exact BK129.out⟩, ⟨HB.out⟩⟩
    rw [if_pos c6] at H
    have c6b0 : (a0_0 == a1_0) = true := beq_iff_eq.mpr c6
    have c6b1 : (a0_0 != a1_0) = false := bne_eq_false_iff_eq.mpr c6
    clear c6
    (skip)
    by_cases c7 : a0_1 = a1_1
    rotate_left
    · rw [if_neg c7] at H
      have c7b0 : (a0_1 == a1_1) = false := beq_eq_false_iff_ne.mpr c7
      have c7b1 : (a0_1 != a1_1) = true := bne_iff_ne.mpr c7
      have H' := Aside0.mk H
      clear H
      have hnb23 := NB128_129.out
      have hnc23 := NB129_128.out
      have hcz24_0 : w5.cell? ⟨gb128, 0, none⟩ = some (.int .i64 a0_0) := (blk_cell BK128.out 0).trans rfl
      have hcz24_1 : w5.cell? ⟨gb128, 1, none⟩ = some (.int .i64 a0_1) := (blk_cell BK128.out 1).trans rfl
      have hcz24_2 : w5.cell? ⟨gb128, 2, none⟩ = some (.string a0_2) := (blk_cell BK128.out 2).trans rfl
      have hcz24_3 : w5.cell? ⟨gb128, 3, none⟩ = some (.slice A0_3 l0_3.length c0_3) := (blk_cell BK128.out 3).trans rfl
      have hcz24_4 : w5.cell? ⟨gb128, 4, none⟩ = some (.int .i64 a0_4) := (blk_cell BK128.out 4).trans rfl
      have hcz24_5 : w5.cell? ⟨gb128, 5, none⟩ = some (.int .i64 a0_5) := (blk_cell BK128.out 5).trans rfl
      have hfz24_0 := blk_frozen BK128.out 0
      have hfz24_1 := blk_frozen BK128.out 1
      have hfz24_2 := blk_frozen BK128.out 2
      have hfz24_3 := blk_frozen BK128.out 3
      have hfz24_4 := blk_frozen BK128.out 4
      have hfz24_5 := blk_frozen BK128.out 5
      have hcz25_0 : w5.cell? ⟨gb129, 0, none⟩ = some (.int .i64 a1_0) := (blk_cell BK129.out 0).trans rfl
      have hcz25_1 : w5.cell? ⟨gb129, 1, none⟩ = some (.int .i64 a1_1) := (blk_cell BK129.out 1).trans rfl
      have hcz25_2 : w5.cell? ⟨gb129, 2, none⟩ = some (.string a1_2) := (blk_cell BK129.out 2).trans rfl
      have hcz25_3 : w5.cell? ⟨gb129, 3, none⟩ = some (.slice A1_3 l1_3.length c1_3) := (blk_cell BK129.out 3).trans rfl
      have hcz25_4 : w5.cell? ⟨gb129, 4, none⟩ = some (.int .i64 a1_4) := (blk_cell BK129.out 4).trans rfl
      have hcz25_5 : w5.cell? ⟨gb129, 5, none⟩ = some (.int .i64 a1_5) := (blk_cell BK129.out 5).trans rfl
      have hfz25_0 := blk_frozen BK129.out 0
      have hfz25_1 := blk_frozen BK129.out 1
      have hfz25_2 := blk_frozen BK129.out 2
      have hfz25_3 := blk_frozen BK129.out 3
      have hfz25_4 := blk_frozen BK129.out 4
      have hfz25_5 := blk_frozen BK129.out 5
      go_wp2
      go_meet
      case rel => exact ⟨_, (true), (by (rfl)), H', ⟨by (omega)⟩, ⟨by exact BK128.out⟩, ⟨by exact BK129.out⟩, ⟨HB.out⟩⟩
    rw [if_pos c7] at H
    have c7b0 : (a0_1 == a1_1) = true := beq_iff_eq.mpr c7
    have c7b1 : (a0_1 != a1_1) = false := bne_eq_false_iff_eq.mpr c7
    clear c7
    by_cases c8 : a0_2.toList = a1_2.toList
    rotate_left
    · rw [if_neg c8] at H
      have c8b0 : (a0_2.toList == a1_2.toList) = false := beq_eq_false_iff_ne.mpr c8
      have c8b1 : (a0_2.toList != a1_2.toList) = true := bne_iff_ne.mpr c8
      have H' := Aside0.mk H
      clear H
      have hnb20 := NB128_129.out
      have hnc20 := NB129_128.out
      have hcz21_0 : w5.cell? ⟨gb128, 0, none⟩ = some (.int .i64 a0_0) := (blk_cell BK128.out 0).trans rfl
      have hcz21_1 : w5.cell? ⟨gb128, 1, none⟩ = some (.int .i64 a0_1) := (blk_cell BK128.out 1).trans rfl
      have hcz21_2 : w5.cell? ⟨gb128, 2, none⟩ = some (.string a0_2) := (blk_cell BK128.out 2).trans rfl
      have hcz21_3 : w5.cell? ⟨gb128, 3, none⟩ = some (.slice A0_3 l0_3.length c0_3) := (blk_cell BK128.out 3).trans rfl
      have hcz21_4 : w5.cell? ⟨gb128, 4, none⟩ = some (.int .i64 a0_4) := (blk_cell BK128.out 4).trans rfl
      have hcz21_5 : w5.cell? ⟨gb128, 5, none⟩ = some (.int .i64 a0_5) := (blk_cell BK128.out 5).trans rfl
      have hfz21_0 := blk_frozen BK128.out 0
      have hfz21_1 := blk_frozen BK128.out 1
      have hfz21_2 := blk_frozen BK128.out 2
      have hfz21_3 := blk_frozen BK128.out 3
      have hfz21_4 := blk_frozen BK128.out 4
      have hfz21_5 := blk_frozen BK128.out 5
      have hcz22_0 : w5.cell? ⟨gb129, 0, none⟩ = some (.int .i64 a1_0) := (blk_cell BK129.out 0).trans rfl
      have hcz22_1 : w5.cell? ⟨gb129, 1, none⟩ = some (.int .i64 a1_1) := (blk_cell BK129.out 1).trans rfl
      have hcz22_2 : w5.cell? ⟨gb129, 2, none⟩ = some (.string a1_2) := (blk_cell BK129.out 2).trans rfl
      have hcz22_3 : w5.cell? ⟨gb129, 3, none⟩ = some (.slice A1_3 l1_3.length c1_3) := (blk_cell BK129.out 3).trans rfl
      have hcz22_4 : w5.cell? ⟨gb129, 4, none⟩ = some (.int .i64 a1_4) := (blk_cell BK129.out 4).trans rfl
      have hcz22_5 : w5.cell? ⟨gb129, 5, none⟩ = some (.int .i64 a1_5) := (blk_cell BK129.out 5).trans rfl
      have hfz22_0 := blk_frozen BK129.out 0
      have hfz22_1 := blk_frozen BK129.out 1
      have hfz22_2 := blk_frozen BK129.out 2
      have hfz22_3 := blk_frozen BK129.out 3
      have hfz22_4 := blk_frozen BK129.out 4
      have hfz22_5 := blk_frozen BK129.out 5
      go_wp2
      go_meet
      case rel => exact ⟨_, (true), (by (rfl)), H', ⟨by (omega)⟩, ⟨by exact BK128.out⟩, ⟨by exact BK129.out⟩, ⟨HB.out⟩⟩
    rw [if_pos c8] at H
    have c8b0 : (a0_2.toList == a1_2.toList) = true := beq_iff_eq.mpr c8
    have c8b1 : (a0_2.toList != a1_2.toList) = false := bne_eq_false_iff_eq.mpr c8
    clear c8
    by_cases c9 : a0_4 = a1_4
    rotate_left
    · rw [if_neg c9] at H
      have c9b0 : (a0_4 == a1_4) = false := beq_eq_false_iff_ne.mpr c9
      have c9b1 : (a0_4 != a1_4) = true := bne_iff_ne.mpr c9
      have H' := Aside0.mk H
      clear H
      have hnb17 := NB128_129.out
      have hnc17 := NB129_128.out
      have hcz18_0 : w5.cell? ⟨gb128, 0, none⟩ = some (.int .i64 a0_0) := (blk_cell BK128.out 0).trans rfl
      have hcz18_1 : w5.cell? ⟨gb128, 1, none⟩ = some (.int .i64 a0_1) := (blk_cell BK128.out 1).trans rfl
      have hcz18_2 : w5.cell? ⟨gb128, 2, none⟩ = some (.string a0_2) := (blk_cell BK128.out 2).trans rfl
      have hcz18_3 : w5.cell? ⟨gb128, 3, none⟩ = some (.slice A0_3 l0_3.length c0_3) := (blk_cell BK128.out 3).trans rfl
      have hcz18_4 : w5.cell? ⟨gb128, 4, none⟩ = some (.int .i64 a0_4) := (blk_cell BK128.out 4).trans rfl
      have hcz18_5 : w5.cell? ⟨gb128, 5, none⟩ = some (.int .i64 a0_5) := (blk_cell BK128.out 5).trans rfl
      have hfz18_0 := blk_frozen BK128.out 0
      have hfz18_1 := blk_frozen BK128.out 1
      have hfz18_2 := blk_frozen BK128.out 2
      have hfz18_3 := blk_frozen BK128.out 3
      have hfz18_4 := blk_frozen BK128.out 4
      have hfz18_5 := blk_frozen BK128.out 5
      have hcz19_0 : w5.cell? ⟨gb129, 0, none⟩ = some (.int .i64 a1_0) := (blk_cell BK129.out 0).trans rfl
      have hcz19_1 : w5.cell? ⟨gb129, 1, none⟩ = some (.int .i64 a1_1) := (blk_cell BK129.out 1).trans rfl
      have hcz19_2 : w5.cell? ⟨gb129, 2, none⟩ = some (.string a1_2) := (blk_cell BK129.out 2).trans rfl
      have hcz19_3 : w5.cell? ⟨gb129, 3, none⟩ = some (.slice A1_3 l1_3.length c1_3) := (blk_cell BK129.out 3).trans rfl
      have hcz19_4 : w5.cell? ⟨gb129, 4, none⟩ = some (.int .i64 a1_4) := (blk_cell BK129.out 4).trans rfl
      have hcz19_5 : w5.cell? ⟨gb129, 5, none⟩ = some (.int .i64 a1_5) := (blk_cell BK129.out 5).trans rfl
      have hfz19_0 := blk_frozen BK129.out 0
      have hfz19_1 := blk_frozen BK129.out 1
      have hfz19_2 := blk_frozen BK129.out 2
      have hfz19_3 := blk_frozen BK129.out 3
      have hfz19_4 := blk_frozen BK129.out 4
      have hfz19_5 := blk_frozen BK129.out 5
      go_wp2
      go_meet
      case rel => exact ⟨_, (true), (by (rfl)), H', ⟨by (omega)⟩, ⟨by exact BK128.out⟩, ⟨by exact BK129.out⟩, ⟨HB.out⟩⟩
    rw [if_pos c9] at H
    have c9b0 : (a0_4 == a1_4) = true := beq_iff_eq.mpr c9
    have c9b1 : (a0_4 != a1_4) = false := bne_eq_false_iff_eq.mpr c9
    clear c9
    by_cases c10 : a0_5 = a1_5
    rotate_left
    · rw [if_neg c10] at H
      have c10b0 : (a0_5 == a1_5) = false := beq_eq_false_iff_ne.mpr c10
      have c10b1 : (a0_5 != a1_5) = true := bne_iff_ne.mpr c10
      have H' := Aside0.mk H
      clear H
      have hnb14 := NB128_129.out
      have hnc14 := NB129_128.out
      have hcz15_0 : w5.cell? ⟨gb128, 0, none⟩ = some (.int .i64 a0_0) := (blk_cell BK128.out 0).trans rfl
      have hcz15_1 : w5.cell? ⟨gb128, 1, none⟩ = some (.int .i64 a0_1) := (blk_cell BK128.out 1).trans rfl
      have hcz15_2 : w5.cell? ⟨gb128, 2, none⟩ = some (.string a0_2) := (blk_cell BK128.out 2).trans rfl
      have hcz15_3 : w5.cell? ⟨gb128, 3, none⟩ = some (.slice A0_3 l0_3.length c0_3) := (blk_cell BK128.out 3).trans rfl
      have hcz15_4 : w5.cell? ⟨gb128, 4, none⟩ = some (.int .i64 a0_4) := (blk_cell BK128.out 4).trans rfl
      have hcz15_5 : w5.cell? ⟨gb128, 5, none⟩ = some (.int .i64 a0_5) := (blk_cell BK128.out 5).trans rfl
      have hfz15_0 := blk_frozen BK128.out 0
      have hfz15_1 := blk_frozen BK128.out 1
      have hfz15_2 := blk_frozen BK128.out 2
      have hfz15_3 := blk_frozen BK128.out 3
      have hfz15_4 := blk_frozen BK128.out 4
      have hfz15_5 := blk_frozen BK128.out 5
      have hcz16_0 : w5.cell? ⟨gb129, 0, none⟩ = some (.int .i64 a1_0) := (blk_cell BK129.out 0).trans rfl
      have hcz16_1 : w5.cell? ⟨gb129, 1, none⟩ = some (.int .i64 a1_1) := (blk_cell BK129.out 1).trans rfl
      have hcz16_2 : w5.cell? ⟨gb129, 2, none⟩ = some (.string a1_2) := (blk_cell BK129.out 2).trans rfl
      have hcz16_3 : w5.cell? ⟨gb129, 3, none⟩ = some (.slice A1_3 l1_3.length c1_3) := (blk_cell BK129.out 3).trans rfl
      have hcz16_4 : w5.cell? ⟨gb129, 4, none⟩ = some (.int .i64 a1_4) := (blk_cell BK129.out 4).trans rfl
      have hcz16_5 : w5.cell? ⟨gb129, 5, none⟩ = some (.int .i64 a1_5) := (blk_cell BK129.out 5).trans rfl
      have hfz16_0 := blk_frozen BK129.out 0
      have hfz16_1 := blk_frozen BK129.out 1
      have hfz16_2 := blk_frozen BK129.out 2
      have hfz16_3 := blk_frozen BK129.out 3
      have hfz16_4 := blk_frozen BK129.out 4
      have hfz16_5 := blk_frozen BK129.out 5
      go_wp2
      go_meet
      case rel => exact ⟨_, (true), (by (rfl)), H', ⟨by (omega)⟩, ⟨by exact BK128.out⟩, ⟨by exact BK129.out⟩, ⟨HB.out⟩⟩
    rw [if_pos c10] at H
    have c10b0 : (a0_5 == a1_5) = true := beq_iff_eq.mpr c10
    have c10b1 : (a0_5 != a1_5) = false := bne_eq_false_iff_eq.mpr c10
    clear c10
    have H' := Aside0.mk H
    clear H
    have hnb11 := NB128_129.out
    have hnc11 := NB129_128.out
    have hcz12_0 : w5.cell? ⟨gb128, 0, none⟩ = some (.int .i64 a0_0) := (blk_cell BK128.out 0).trans rfl
    have hcz12_1 : w5.cell? ⟨gb128, 1, none⟩ = some (.int .i64 a0_1) := (blk_cell BK128.out 1).trans rfl
    have hcz12_2 : w5.cell? ⟨gb128, 2, none⟩ = some (.string a0_2) := (blk_cell BK128.out 2).trans rfl
    have hcz12_3 : w5.cell? ⟨gb128, 3, none⟩ = some (.slice A0_3 l0_3.length c0_3) := (blk_cell BK128.out 3).trans rfl
    have hcz12_4 : w5.cell? ⟨gb128, 4, none⟩ = some (.int .i64 a0_4) := (blk_cell BK128.out 4).trans rfl
    have hcz12_5 : w5.cell? ⟨gb128, 5, none⟩ = some (.int .i64 a0_5) := (blk_cell BK128.out 5).trans rfl
    have hfz12_0 := blk_frozen BK128.out 0
    have hfz12_1 := blk_frozen BK128.out 1
    have hfz12_2 := blk_frozen BK128.out 2
    have hfz12_3 := blk_frozen BK128.out 3
    have hfz12_4 := blk_frozen BK128.out 4
    have hfz12_5 := blk_frozen BK128.out 5
    have hcz13_0 : w5.cell? ⟨gb129, 0, none⟩ = some (.int .i64 a1_0) := (blk_cell BK129.out 0).trans rfl
    have hcz13_1 : w5.cell? ⟨gb129, 1, none⟩ = some (.int .i64 a1_1) := (blk_cell BK129.out 1).trans rfl
    have hcz13_2 : w5.cell? ⟨gb129, 2, none⟩ = some (.string a1_2) := (blk_cell BK129.out 2).trans rfl
    have hcz13_3 : w5.cell? ⟨gb129, 3, none⟩ = some (.slice A1_3 l1_3.length c1_3) := (blk_cell BK129.out 3).trans rfl
    have hcz13_4 : w5.cell? ⟨gb129, 4, none⟩ = some (.int .i64 a1_4) := (blk_cell BK129.out 4).trans rfl
    have hcz13_5 : w5.cell? ⟨gb129, 5, none⟩ = some (.int .i64 a1_5) := (blk_cell BK129.out 5).trans rfl
    have hfz13_0 := blk_frozen BK129.out 0
    have hfz13_1 := blk_frozen BK129.out 1
    have hfz13_2 := blk_frozen BK129.out 2
    have hfz13_3 := blk_frozen BK129.out 3
    have hfz13_4 := blk_frozen BK129.out 4
    have hfz13_5 := blk_frozen BK129.out 5
    go_wp2
    go_meet
    case rel => exact ⟨_, (((l0_3.length : Int) != (l1_3.length : Int))), (by (rfl)), H', ⟨by (omega)⟩, ⟨by exact BK128.out⟩, ⟨by exact BK129.out⟩, ⟨HB.out⟩⟩
  clear HC3
  obtain ⟨kq, x47_2, rfl, HA, HJ2, BK128, BK129, HB⟩ := hcut
  rcases kq with _ | kj2
  · exact absurd HA.out (by simp [notaryref06_Placed.j0])
  have H := HA.out
  clear HA
  simp only [notaryref06_Placed.j0] at H
  by_cases c29 : x47_2 = true
  · subst c29
    have H1 : (some false) = some r := by rw [if_pos rfl] at H; exact H
    clear H
    have H := H1
    clear H1
    obtain rfl := Option.some.inj H
    go_wp2
    go_ret
    exact ⟨by (rfl), HB.out⟩
  replace c29 := Bool.eq_false_iff.mpr c29
  subst c29
  have H1 : (notaryref06_Placed.l0 kj2 0 a0_0 a0_1 a0_2 l0_3 a0_4 a0_5 a1_0 a1_1 a1_2 l1_3 a1_4 a1_5) = some r := by rw [if_neg (show ¬ (false = true) by decide)] at H; exact H
  clear H
  have H := H1
  clear H1
  have H' := Aside0.mk H
  clear H
  go_wp2
  go_loopg [5] kj2 (fun kq v5 w' => ∃ (x5_2 : Int), v5 = .int .i64 x5_2 ∧ Aside0 (notaryref06_Placed.l0 kq x5_2 a0_0 a0_1 a0_2 l0_3 a0_4 a0_5 a1_0 a1_1 a1_2 l1_3 a1_4 a1_5 = some r) ∧ Aside0 (kq ≤ kj2) ∧ Aside0 (w'.heap[gb128]? = some (.cells #[.int .i64 a0_0, .int .i64 a0_1, .string a0_2, (.slice A0_3 l0_3.length c0_3), .int .i64 a0_4, .int .i64 a0_5] 25 (0, 0))) ∧ Aside0 (w'.heap[gb129]? = some (.cells #[.int .i64 a1_0, .int .i64 a1_1, .string a1_2, (.slice A1_3 l1_3.length c1_3), .int .i64 a1_4, .int .i64 a1_5] 25 (0, 0))) ∧ Aside0 (Below w.heap.size w w'))
  case atStart => exact ⟨(0), (by (rfl)), H', ⟨Nat.le_refl _⟩, ⟨by exact BK128.out⟩, ⟨by exact BK129.out⟩, ⟨HB.out⟩⟩
  clear H'
  obtain ⟨x5_2, rfl, HA, HK2, BK128, BK129, HB⟩ := hrel
  rcases gk with _ | k2
  · exact absurd HA.out (by simp [notaryref06_Placed.l0])
  have H := HA.out
  clear HA
  simp only [notaryref06_Placed.l0] at H
  by_cases c30 : x5_2 < (l0_3.length : Int)
  rotate_left
  · rw [if_neg c30] at H
    have c30b0 : decide (x5_2 < (l0_3.length : Int)) = false := decide_eq_false c30
    clear c30
    obtain rfl := Option.some.inj H
    have hnb43 := NB128_129.out
    have hnc43 := NB129_128.out
    have hcz44_0 : wr.cell? ⟨gb128, 0, none⟩ = some (.int .i64 a0_0) := (blk_cell BK128.out 0).trans rfl
    have hcz44_1 : wr.cell? ⟨gb128, 1, none⟩ = some (.int .i64 a0_1) := (blk_cell BK128.out 1).trans rfl
    have hcz44_2 : wr.cell? ⟨gb128, 2, none⟩ = some (.string a0_2) := (blk_cell BK128.out 2).trans rfl
    have hcz44_3 : wr.cell? ⟨gb128, 3, none⟩ = some (.slice A0_3 l0_3.length c0_3) := (blk_cell BK128.out 3).trans rfl
    have hcz44_4 : wr.cell? ⟨gb128, 4, none⟩ = some (.int .i64 a0_4) := (blk_cell BK128.out 4).trans rfl
    have hcz44_5 : wr.cell? ⟨gb128, 5, none⟩ = some (.int .i64 a0_5) := (blk_cell BK128.out 5).trans rfl
    have hfz44_0 := blk_frozen BK128.out 0
    have hfz44_1 := blk_frozen BK128.out 1
    have hfz44_2 := blk_frozen BK128.out 2
    have hfz44_3 := blk_frozen BK128.out 3
    have hfz44_4 := blk_frozen BK128.out 4
    have hfz44_5 := blk_frozen BK128.out 5
    go_wp2
    go_ret
    exact ⟨by (rfl), HB.out⟩

  rw [if_pos c30] at H
  have c30b0 : decide (x5_2 < (l0_3.length : Int)) = true := decide_eq_true c30
  clear c30
  by_cases c31 : 0 ≤ x5_2
  rotate_left
  · rw [if_neg c31] at H
    exact absurd H (by simp)
  rw [if_pos c31] at H
  have c31b0 : decide (0 ≤ x5_2) = true := decide_eq_true c31
  clear c31
  by_cases c32 : x5_2 < (l1_3.length : Int)
  rotate_left
  · rw [if_neg c32] at H
    exact absurd H (by simp)
  rw [if_pos c32] at H
  have c32b0 : decide (x5_2 < (l1_3.length : Int)) = true := decide_eq_true c32
  clear c32
  replace H := Option.bind_eq_some_iff.mp H
  obtain ⟨t132, A330, H⟩ := H
  replace H : (if t132 = true then (notaryref06_Placed.l0 k2 (wrap64 (x5_2 + 1)) a0_0 a0_1 a0_2 l0_3 a0_4 a0_5 a1_0 a1_1 a1_2 l1_3 a1_4 a1_5) else (some false)) = some r := H
  have A33 := Aside0.mk A330
  clear A330
  by_cases c34 : t132 = true
  rotate_left
  · replace c34 := Bool.eq_false_iff.mpr c34
    subst c34
    have H1 : (some false) = some r := by rw [if_neg (show ¬ (false = true) by decide)] at H; exact H
    clear H
    have H := H1
    clear H1
    obtain rfl := Option.some.inj H
    have hnb39 := NB128_129.out
    have hnc39 := NB129_128.out
    have hcz40_0 : wr.cell? ⟨gb128, 0, none⟩ = some (.int .i64 a0_0) := (blk_cell BK128.out 0).trans rfl
    have hcz40_1 : wr.cell? ⟨gb128, 1, none⟩ = some (.int .i64 a0_1) := (blk_cell BK128.out 1).trans rfl
    have hcz40_2 : wr.cell? ⟨gb128, 2, none⟩ = some (.string a0_2) := (blk_cell BK128.out 2).trans rfl
    have hcz40_3 : wr.cell? ⟨gb128, 3, none⟩ = some (.slice A0_3 l0_3.length c0_3) := (blk_cell BK128.out 3).trans rfl
    have hcz40_4 : wr.cell? ⟨gb128, 4, none⟩ = some (.int .i64 a0_4) := (blk_cell BK128.out 4).trans rfl
    have hcz40_5 : wr.cell? ⟨gb128, 5, none⟩ = some (.int .i64 a0_5) := (blk_cell BK128.out 5).trans rfl
    have hfz40_0 := blk_frozen BK128.out 0
    have hfz40_1 := blk_frozen BK128.out 1
    have hfz40_2 := blk_frozen BK128.out 2
    have hfz40_3 := blk_frozen BK128.out 3
    have hfz40_4 := blk_frozen BK128.out 4
    have hfz40_5 := blk_frozen BK128.out 5
    try go_wp2
    have n0_ := Aside0.mk (blk_drew BK128.out)
    have n1_ := Aside0.mk (blk_drew BK129.out)
    have n2_ := Aside0.mk (below_drew1 HB.out)
    clear BK128
    clear BK129
    clear HB
    have BK128 := n0_
    have BK129 := n1_
    have HB := n2_
    clear n0_ n1_ n2_
    have p130 : 0 ≤ (x5_2 : Int) := of_decide_eq_true (by (with_reducible assumption))
    have q130 : x5_2 < (l0_3.length : Int) := of_decide_eq_true (by (with_reducible assumption))
    obtain ⟨ad130, A130_3, c130_3, e130, hx130_0, hx130_1, hx130_2, hx130_3, hx130_4, hx130_5, hl130_3, hi130_3⟩ := at_T25 HR0_3.out x5_2 p130 q130
    have hw130_5 := hx130_5
    have hw130_4 := hx130_4
    have hw130_3 := hx130_3
    have hw130_2 := hx130_2
    have hw130_1 := hx130_1
    have hw130_0 := hx130_0
    cases e130
    replace hx130_0 := pw_cell_below HB.out hx130_0
    replace hx130_1 := pw_cell_below HB.out hx130_1
    replace hx130_2 := pw_cell_below HB.out hx130_2
    replace hx130_3 := pw_cell_below HB.out hx130_3
    replace hx130_4 := pw_cell_below HB.out hx130_4
    replace hx130_5 := pw_cell_below HB.out hx130_5
    have HR130_3 := Aside0.mk hi130_3
    have HC130_3 := Aside0.mk hl130_3
    clear hi130_3 hl130_3
    replace p130 := eq_true p130
    replace q130 := eq_true q130
    have p131 : 0 ≤ (x5_2 : Int) := of_decide_eq_true (by (with_reducible assumption))
    have q131 : x5_2 < (l1_3.length : Int) := of_decide_eq_true (by (with_reducible assumption))
    obtain ⟨ad131, A131_3, c131_3, e131, hx131_0, hx131_1, hx131_2, hx131_3, hx131_4, hx131_5, hl131_3, hi131_3⟩ := at_T25 HR1_3.out x5_2 p131 q131
    have hw131_5 := hx131_5
    have hw131_4 := hx131_4
    have hw131_3 := hx131_3
    have hw131_2 := hx131_2
    have hw131_1 := hx131_1
    have hw131_0 := hx131_0
    cases e131
    replace hx131_0 := pw_cell_below HB.out hx131_0
    replace hx131_1 := pw_cell_below HB.out hx131_1
    replace hx131_2 := pw_cell_below HB.out hx131_2
    replace hx131_3 := pw_cell_below HB.out hx131_3
    replace hx131_4 := pw_cell_below HB.out hx131_4
    replace hx131_5 := pw_cell_below HB.out hx131_5
    have HR131_3 := Aside0.mk hi131_3
    have HC131_3 := Aside0.mk hl131_3
    clear hi131_3 hl131_3
    replace p131 := eq_true p131
    replace q131 := eq_true q131
    refine start_ (n := 12) (S := fun w' => w'.cell? ⟨gb128, 0, none⟩ = some (.int .i64 a0_0) ∧ w'.cell? ⟨gb128, 1, none⟩ = some (.int .i64 a0_1) ∧ w'.cell? ⟨gb128, 2, none⟩ = some (.string a0_2) ∧ w'.cell? ⟨gb128, 3, none⟩ = some (.slice (some ad130) l0_3.length c0_3) ∧ w'.cell? ⟨gb128, 4, none⟩ = some (.int .i64 a0_4) ∧ w'.cell? ⟨gb128, 5, none⟩ = some (.int .i64 a0_5) ∧ w'.cell? ⟨gb129, 0, none⟩ = some (.int .i64 a1_0) ∧ w'.cell? ⟨gb129, 1, none⟩ = some (.int .i64 a1_1) ∧ w'.cell? ⟨gb129, 2, none⟩ = some (.string a1_2) ∧ w'.cell? ⟨gb129, 3, none⟩ = some (.slice (some ad131) l1_3.length c1_3) ∧ w'.cell? ⟨gb129, 4, none⟩ = some (.int .i64 a1_4) ∧ w'.cell? ⟨gb129, 5, none⟩ = some (.int .i64 a1_5) ∧ w'.cell? (ad130.add ((x5_2).toNat * 6)) = some (.int .i64 ((rd_T25 l0_3 x5_2).f0)) ∧ w'.cell? ⟨(ad130.add ((x5_2).toNat * 6)).block, (ad130.add ((x5_2).toNat * 6)).off + 1, none⟩ = some (.int .i64 ((rd_T25 l0_3 x5_2).f1)) ∧ w'.cell? ⟨(ad130.add ((x5_2).toNat * 6)).block, (ad130.add ((x5_2).toNat * 6)).off + 2, none⟩ = some (.string ((rd_T25 l0_3 x5_2).f2)) ∧ w'.cell? ⟨(ad130.add ((x5_2).toNat * 6)).block, (ad130.add ((x5_2).toNat * 6)).off + 3, none⟩ = some (.slice A130_3 ((rd_T25 l0_3 x5_2).f3).length c130_3) ∧ w'.cell? ⟨(ad130.add ((x5_2).toNat * 6)).block, (ad130.add ((x5_2).toNat * 6)).off + 4, none⟩ = some (.int .i64 ((rd_T25 l0_3 x5_2).f4)) ∧ w'.cell? ⟨(ad130.add ((x5_2).toNat * 6)).block, (ad130.add ((x5_2).toNat * 6)).off + 5, none⟩ = some (.int .i64 ((rd_T25 l0_3 x5_2).f5)) ∧ w'.cell? (ad131.add ((x5_2).toNat * 6)) = some (.int .i64 ((rd_T25 l1_3 x5_2).f0)) ∧ w'.cell? ⟨(ad131.add ((x5_2).toNat * 6)).block, (ad131.add ((x5_2).toNat * 6)).off + 1, none⟩ = some (.int .i64 ((rd_T25 l1_3 x5_2).f1)) ∧ w'.cell? ⟨(ad131.add ((x5_2).toNat * 6)).block, (ad131.add ((x5_2).toNat * 6)).off + 2, none⟩ = some (.string ((rd_T25 l1_3 x5_2).f2)) ∧ w'.cell? ⟨(ad131.add ((x5_2).toNat * 6)).block, (ad131.add ((x5_2).toNat * 6)).off + 3, none⟩ = some (.slice A131_3 ((rd_T25 l1_3 x5_2).f3).length c131_3) ∧ w'.cell? ⟨(ad131.add ((x5_2).toNat * 6)).block, (ad131.add ((x5_2).toNat * 6)).off + 4, none⟩ = some (.int .i64 ((rd_T25 l1_3 x5_2).f4)) ∧ w'.cell? ⟨(ad131.add ((x5_2).toNat * 6)).block, (ad131.add ((x5_2).toNat * 6)).off + 5, none⟩ = some (.int .i64 ((rd_T25 l1_3 x5_2).f5))) (ds := []) (bl 12 0) (by kernel_rfl) rfl rfl ⟨(blk_cell BK128.out 0).trans rfl, (blk_cell BK128.out 1).trans rfl, (blk_cell BK128.out 2).trans rfl, (blk_cell BK128.out 3).trans rfl, (blk_cell BK128.out 4).trans rfl, (blk_cell BK128.out 5).trans rfl, (blk_cell BK129.out 0).trans rfl, (blk_cell BK129.out 1).trans rfl, (blk_cell BK129.out 2).trans rfl, (blk_cell BK129.out 3).trans rfl, (blk_cell BK129.out 4).trans rfl, (blk_cell BK129.out 5).trans rfl, (pw_cell_below HB.out hw130_0), (pw_cell_below HB.out hw130_1), (pw_cell_below HB.out hw130_2), (pw_cell_below HB.out hw130_3), (pw_cell_below HB.out hw130_4), (pw_cell_below HB.out hw130_5), (pw_cell_below HB.out hw131_0), (pw_cell_below HB.out hw131_1), (pw_cell_below HB.out hw131_2), (pw_cell_below HB.out hw131_3), (pw_cell_below HB.out hw131_4), (pw_cell_below HB.out hw131_5)⟩ (fun hHeld => ?_); refine with_tabW notaryref06_Placed.tab6 notaryref06_Placed.bits6 (fun HT_ HW_ => ?_)
    generalize wr.drew = w41 at BK128 BK129 HB HR130_3 HR131_3 hx130_0 hx130_1 hx130_2 hx130_3 hx130_4 hx130_5 hx131_0 hx131_1 hx131_2 hx131_3 hx131_4 hx131_5 hHeld ⊢
    refine pure_ (i := 0) (N := some 55) (v := ?_) (a' := ?_) (bl 12 1) rfl rfl (any_of HT_.out (by kernel_rfl)) (fun _ _ _ h => h) (Or.inl ⟨by rfl, ?_⟩) ?_ ?_
    rotate_left
    · intro w'; go_simp; with_reducible rfl
    rotate_left
    · simp only [Act.put, sa_, sz_, ss_, i64_w, i32_w]; rfl
    refine pure_ (i := 2) (N := some 57) (v := ?_) (a' := ?_) (bl 12 5) rfl rfl (any_of HT_.out (by kernel_rfl)) (fun _ _ _ h => h) (Or.inl ⟨by rfl, ?_⟩) ?_ ?_
    rotate_left
    · intro w'; go_simp; with_reducible rfl
    rotate_left
    · simp only [Act.put, sa_, sz_, ss_, i64_w, i32_w]; rfl
    refine pure_ (i := 5) (N := some 60) (v := ?_) (a' := ?_) (bl 12 37) rfl rfl (any_of HT_.out (by kernel_rfl)) (fun _ _ _ h => h) (Or.inl ⟨by rfl, ?_⟩) ?_ ?_
    rotate_left
    · intro w'; go_simp; with_reducible rfl
    rotate_left
    · simp only [Act.put, sa_, sz_, ss_, i64_w, i32_w]; rfl
    refine pure_ (i := 7) (N := some 62) (v := ?_) (a' := ?_) (bl 12 165) rfl rfl (any_of HT_.out (by kernel_rfl)) (fun _ _ _ h => h) (Or.inl ⟨by rfl, ?_⟩) ?_ ?_
    rotate_left
    · intro w'; go_simp; with_reducible rfl
    rotate_left
    · simp only [Act.put, sa_, sz_, ss_, i64_w, i32_w]; rfl
    refine take_ (i := 1) (N := some 56) (v := ?_) (a' := ?_) (bl 12 167) rfl rfl (take_ofW HT_.out HW_.out (by kernel_rfl)) (fun _ _ _ h => h) (Or.inl ⟨by rfl, ?_⟩) hHeld ?_ ?_
    rotate_left
    · rintro w' ⟨s0, s1, s2, s3, s4, s5, s6, s7, s8, s9, s10, s11, s12, s13, s14, s15, s16, s17, s18, s19, s20, s21, s22, s23⟩
      go_simp
      with_reducible rfl
    rotate_left
    · simp only [Act.put, sa_, sz_, ss_, i64_w, i32_w]; rfl
    refine pure_ (i := 3) (N := some 58) (v := ?_) (a' := ?_) (bl 12 175) rfl rfl (any_of HT_.out (by kernel_rfl)) (fun _ _ _ h => h) (Or.inl ⟨by rfl, ?_⟩) ?_ ?_
    rotate_left
    · intro w'; go_simp; with_reducible rfl
    rotate_left
    · simp only [Act.put, sa_, sz_, ss_, i64_w, i32_w]; rfl
    refine take_ (i := 4) (N := some 59) (v := ?_) (a' := ?_) (bl 12 191) rfl rfl (take_ofW HT_.out HW_.out (by kernel_rfl)) (fun _ _ _ h => h) (Or.inl ⟨by rfl, ?_⟩) hHeld ?_ ?_
    rotate_left
    · rintro w' ⟨s0, s1, s2, s3, s4, s5, s6, s7, s8, s9, s10, s11, s12, s13, s14, s15, s16, s17, s18, s19, s20, s21, s22, s23⟩
      go_simp
      with_reducible rfl
    rotate_left
    · simp only [Act.put, sa_, sz_, ss_, i64_w, i32_w]; rfl
    refine take_ (i := 6) (N := some 61) (v := ?_) (a' := ?_) (bl 12 255) rfl rfl (take_ofW HT_.out HW_.out (by kernel_rfl)) (fun _ _ _ h => h) (Or.inl ⟨by rfl, ?_⟩) hHeld ?_ ?_
    rotate_left
    · rintro w' ⟨s0, s1, s2, s3, s4, s5, s6, s7, s8, s9, s10, s11, s12, s13, s14, s15, s16, s17, s18, s19, s20, s21, s22, s23⟩
      go_simp
      with_reducible rfl
    rotate_left
    · simp only [Act.put, sa_, sz_, ss_, i64_w, i32_w]; rfl
    refine pure_ (i := 8) (N := some 63) (v := ?_) (a' := ?_) (bl 12 511) rfl rfl (any_of HT_.out (by kernel_rfl)) (fun _ _ _ h => h) (Or.inl ⟨by rfl, ?_⟩) ?_ ?_
    rotate_left
    · intro w'; go_simp; with_reducible rfl
    rotate_left
    · simp only [Act.put, sa_, sz_, ss_, i64_w, i32_w]; rfl
    refine take_ (i := 9) (N := some 64) (v := ?_) (a' := ?_) (bl 12 1023) rfl rfl (take_ofW HT_.out HW_.out (by kernel_rfl)) (fun _ _ _ h => h) (Or.inl ⟨by rfl, ?_⟩) hHeld ?_ ?_
    rotate_left
    · rintro w' ⟨s0, s1, s2, s3, s4, s5, s6, s7, s8, s9, s10, s11, s12, s13, s14, s15, s16, s17, s18, s19, s20, s21, s22, s23⟩
      go_simp
      with_reducible rfl
    rotate_left
    · simp only [Act.put, sa_, sz_, ss_, i64_w, i32_w]; rfl
    refine one_ (i := 10) (N := some 65) (bl 12 2047) rfl rfl (one_of HT_.out (by kernel_rfl)) (by decide) (fun K hK => ?_)
    refine goes_ Try.func14 (by kernel_rfl) rfl #[.agg #[.int .i64 ((rd_T25 l0_3 x5_2).f0), .int .i64 ((rd_T25 l0_3 x5_2).f1), .string ((rd_T25 l0_3 x5_2).f2), .slice A130_3 ((rd_T25 l0_3 x5_2).f3).length c130_3, .int .i64 ((rd_T25 l0_3 x5_2).f4), .int .i64 ((rd_T25 l0_3 x5_2).f5)], .agg #[.int .i64 ((rd_T25 l1_3 x5_2).f0), .int .i64 ((rd_T25 l1_3 x5_2).f1), .string ((rd_T25 l1_3 x5_2).f2), .slice A131_3 ((rd_T25 l1_3 x5_2).f3).length c131_3, .int .i64 ((rd_T25 l1_3 x5_2).f4), .int .i64 ((rd_T25 l1_3 x5_2).f5)]] (by rfl) rfl rfl (by (try simp only [List.map_toArray, List.map_cons, List.map_nil]); (rfl)) ?_
    with_reducible refine (ih k2 (by have := HJ2.out; have := HK2.out; omega) ((rd_T25 l0_3 x5_2).f0) ((rd_T25 l0_3 x5_2).f1) ((rd_T25 l0_3 x5_2).f2) _ _ ((rd_T25 l0_3 x5_2).f3) ((rd_T25 l0_3 x5_2).f4) ((rd_T25 l0_3 x5_2).f5) ((rd_T25 l1_3 x5_2).f0) ((rd_T25 l1_3 x5_2).f1) ((rd_T25 l1_3 x5_2).f2) _ _ ((rd_T25 l1_3 x5_2).f3) ((rd_T25 l1_3 x5_2).f4) ((rd_T25 l1_3 x5_2).f5) false _ ?side1 ?side2 ?side3 ?side4 A33.out).mono ?_
    (case side1 => exact Kd.C_below HR130_3.out HB.out)
    (case side2 => exact HC130_3.out)
    (case side3 => exact Kd.C_below HR131_3.out HB.out)
    (case side4 => exact HC131_3.out)
    rintro e w42 ⟨rfl, hb⟩
    refine ⟨_, rfl, ?_⟩
    have n0_ := Aside0.mk (blk_below (g := gb128) (o := .cells #[.int .i64 a0_0, .int .i64 a0_1, .string a0_2, .slice (some ad130) l0_3.length c0_3, .int .i64 a0_4, .int .i64 a0_5] 25 (0, 0)) (by exact BK128.out) hb)
    have n1_ := Aside0.mk (blk_below (g := gb129) (o := .cells #[.int .i64 a1_0, .int .i64 a1_1, .string a1_2, .slice (some ad131) l1_3.length c1_3, .int .i64 a1_4, .int .i64 a1_5] 25 (0, 0)) (by exact BK129.out) hb)
    have n2_ := Aside0.mk (below_step HB.out hb)
    clear BK128
    clear BK129
    clear HB
    have BK128 := n0_
    have BK129 := n1_
    have HB := n2_
    clear n0_ n1_ n2_
    (try clear hb)
    (skip)
    (skip)
    (skip)
    refine hK.out _ _ ⟨(blk_cell BK128.out 0).trans rfl, (blk_cell BK128.out 1).trans rfl, (blk_cell BK128.out 2).trans rfl, (blk_cell BK128.out 3).trans rfl, (blk_cell BK128.out 4).trans rfl, (blk_cell BK128.out 5).trans rfl, (blk_cell BK129.out 0).trans rfl, (blk_cell BK129.out 1).trans rfl, (blk_cell BK129.out 2).trans rfl, (blk_cell BK129.out 3).trans rfl, (blk_cell BK129.out 4).trans rfl, (blk_cell BK129.out 5).trans rfl, (pw_cell_below HB.out hw130_0), (pw_cell_below HB.out hw130_1), (pw_cell_below HB.out hw130_2), (pw_cell_below HB.out hw130_3), (pw_cell_below HB.out hw130_4), (pw_cell_below HB.out hw130_5), (pw_cell_below HB.out hw131_0), (pw_cell_below HB.out hw131_1), (pw_cell_below HB.out hw131_2), (pw_cell_below HB.out hw131_3), (pw_cell_below HB.out hw131_4), (pw_cell_below HB.out hw131_5)⟩ (fun hHeld => ?_)
    clear hK K
    refine norm_ (a' := ?_) ?_ ?_
    rotate_left
    · show Act.put _ (some 65) _ = _
      simp only [Act.put, sa_, sz_, ss_, i64_w, i32_w]
      rfl
    refine pure_ (i := 11) (N := some 66) (v := ?_) (a' := ?_) (bl 12 4095) rfl rfl (any_of HT_.out (by kernel_rfl)) (fun _ _ _ h => h) (Or.inl ⟨by rfl, ?_⟩) ?_ ?_
    rotate_left
    · intro w'; go_simp; with_reducible rfl
    rotate_left
    · simp only [Act.put, sa_, sz_, ss_, i64_w, i32_w]; rfl
    refine done_ (done_of HT_.out (by kernel_rfl)) ?_
    try go_wp2
    go_ret
    exact ⟨by (rfl), HB.out⟩
  subst c34
  have H1 : (notaryref06_Placed.l0 k2 (wrap64 (x5_2 + 1)) a0_0 a0_1 a0_2 l0_3 a0_4 a0_5 a1_0 a1_1 a1_2 l1_3 a1_4 a1_5) = some r := by rw [if_pos rfl] at H; exact H
  clear H
  have H := H1
  clear H1
  have H' := Aside0.mk H
  clear H
  have hnb35 := NB128_129.out
  have hnc35 := NB129_128.out
  have hcz36_0 : wr.cell? ⟨gb128, 0, none⟩ = some (.int .i64 a0_0) := (blk_cell BK128.out 0).trans rfl
  have hcz36_1 : wr.cell? ⟨gb128, 1, none⟩ = some (.int .i64 a0_1) := (blk_cell BK128.out 1).trans rfl
  have hcz36_2 : wr.cell? ⟨gb128, 2, none⟩ = some (.string a0_2) := (blk_cell BK128.out 2).trans rfl
  have hcz36_3 : wr.cell? ⟨gb128, 3, none⟩ = some (.slice A0_3 l0_3.length c0_3) := (blk_cell BK128.out 3).trans rfl
  have hcz36_4 : wr.cell? ⟨gb128, 4, none⟩ = some (.int .i64 a0_4) := (blk_cell BK128.out 4).trans rfl
  have hcz36_5 : wr.cell? ⟨gb128, 5, none⟩ = some (.int .i64 a0_5) := (blk_cell BK128.out 5).trans rfl
  have hfz36_0 := blk_frozen BK128.out 0
  have hfz36_1 := blk_frozen BK128.out 1
  have hfz36_2 := blk_frozen BK128.out 2
  have hfz36_3 := blk_frozen BK128.out 3
  have hfz36_4 := blk_frozen BK128.out 4
  have hfz36_5 := blk_frozen BK128.out 5
  try go_wp2
  have n0_ := Aside0.mk (blk_drew BK128.out)
  have n1_ := Aside0.mk (blk_drew BK129.out)
  have n2_ := Aside0.mk (below_drew1 HB.out)
  clear BK128
  clear BK129
  clear HB
  have BK128 := n0_
  have BK129 := n1_
  have HB := n2_
  clear n0_ n1_ n2_
  have p130 : 0 ≤ (x5_2 : Int) := of_decide_eq_true (by (with_reducible assumption))
  have q130 : x5_2 < (l0_3.length : Int) := of_decide_eq_true (by (with_reducible assumption))
  obtain ⟨ad130, A130_3, c130_3, e130, hx130_0, hx130_1, hx130_2, hx130_3, hx130_4, hx130_5, hl130_3, hi130_3⟩ := at_T25 HR0_3.out x5_2 p130 q130
  have hw130_5 := hx130_5
  have hw130_4 := hx130_4
  have hw130_3 := hx130_3
  have hw130_2 := hx130_2
  have hw130_1 := hx130_1
  have hw130_0 := hx130_0
  cases e130
  replace hx130_0 := pw_cell_below HB.out hx130_0
  replace hx130_1 := pw_cell_below HB.out hx130_1
  replace hx130_2 := pw_cell_below HB.out hx130_2
  replace hx130_3 := pw_cell_below HB.out hx130_3
  replace hx130_4 := pw_cell_below HB.out hx130_4
  replace hx130_5 := pw_cell_below HB.out hx130_5
  have HR130_3 := Aside0.mk hi130_3
  have HC130_3 := Aside0.mk hl130_3
  clear hi130_3 hl130_3
  replace p130 := eq_true p130
  replace q130 := eq_true q130
  have p131 : 0 ≤ (x5_2 : Int) := of_decide_eq_true (by (with_reducible assumption))
  have q131 : x5_2 < (l1_3.length : Int) := of_decide_eq_true (by (with_reducible assumption))
  obtain ⟨ad131, A131_3, c131_3, e131, hx131_0, hx131_1, hx131_2, hx131_3, hx131_4, hx131_5, hl131_3, hi131_3⟩ := at_T25 HR1_3.out x5_2 p131 q131
  have hw131_5 := hx131_5
  have hw131_4 := hx131_4
  have hw131_3 := hx131_3
  have hw131_2 := hx131_2
  have hw131_1 := hx131_1
  have hw131_0 := hx131_0
  cases e131
  replace hx131_0 := pw_cell_below HB.out hx131_0
  replace hx131_1 := pw_cell_below HB.out hx131_1
  replace hx131_2 := pw_cell_below HB.out hx131_2
  replace hx131_3 := pw_cell_below HB.out hx131_3
  replace hx131_4 := pw_cell_below HB.out hx131_4
  replace hx131_5 := pw_cell_below HB.out hx131_5
  have HR131_3 := Aside0.mk hi131_3
  have HC131_3 := Aside0.mk hl131_3
  clear hi131_3 hl131_3
  replace p131 := eq_true p131
  replace q131 := eq_true q131
  refine start_ (n := 12) (S := fun w' => w'.cell? ⟨gb128, 0, none⟩ = some (.int .i64 a0_0) ∧ w'.cell? ⟨gb128, 1, none⟩ = some (.int .i64 a0_1) ∧ w'.cell? ⟨gb128, 2, none⟩ = some (.string a0_2) ∧ w'.cell? ⟨gb128, 3, none⟩ = some (.slice (some ad130) l0_3.length c0_3) ∧ w'.cell? ⟨gb128, 4, none⟩ = some (.int .i64 a0_4) ∧ w'.cell? ⟨gb128, 5, none⟩ = some (.int .i64 a0_5) ∧ w'.cell? ⟨gb129, 0, none⟩ = some (.int .i64 a1_0) ∧ w'.cell? ⟨gb129, 1, none⟩ = some (.int .i64 a1_1) ∧ w'.cell? ⟨gb129, 2, none⟩ = some (.string a1_2) ∧ w'.cell? ⟨gb129, 3, none⟩ = some (.slice (some ad131) l1_3.length c1_3) ∧ w'.cell? ⟨gb129, 4, none⟩ = some (.int .i64 a1_4) ∧ w'.cell? ⟨gb129, 5, none⟩ = some (.int .i64 a1_5) ∧ w'.cell? (ad130.add ((x5_2).toNat * 6)) = some (.int .i64 ((rd_T25 l0_3 x5_2).f0)) ∧ w'.cell? ⟨(ad130.add ((x5_2).toNat * 6)).block, (ad130.add ((x5_2).toNat * 6)).off + 1, none⟩ = some (.int .i64 ((rd_T25 l0_3 x5_2).f1)) ∧ w'.cell? ⟨(ad130.add ((x5_2).toNat * 6)).block, (ad130.add ((x5_2).toNat * 6)).off + 2, none⟩ = some (.string ((rd_T25 l0_3 x5_2).f2)) ∧ w'.cell? ⟨(ad130.add ((x5_2).toNat * 6)).block, (ad130.add ((x5_2).toNat * 6)).off + 3, none⟩ = some (.slice A130_3 ((rd_T25 l0_3 x5_2).f3).length c130_3) ∧ w'.cell? ⟨(ad130.add ((x5_2).toNat * 6)).block, (ad130.add ((x5_2).toNat * 6)).off + 4, none⟩ = some (.int .i64 ((rd_T25 l0_3 x5_2).f4)) ∧ w'.cell? ⟨(ad130.add ((x5_2).toNat * 6)).block, (ad130.add ((x5_2).toNat * 6)).off + 5, none⟩ = some (.int .i64 ((rd_T25 l0_3 x5_2).f5)) ∧ w'.cell? (ad131.add ((x5_2).toNat * 6)) = some (.int .i64 ((rd_T25 l1_3 x5_2).f0)) ∧ w'.cell? ⟨(ad131.add ((x5_2).toNat * 6)).block, (ad131.add ((x5_2).toNat * 6)).off + 1, none⟩ = some (.int .i64 ((rd_T25 l1_3 x5_2).f1)) ∧ w'.cell? ⟨(ad131.add ((x5_2).toNat * 6)).block, (ad131.add ((x5_2).toNat * 6)).off + 2, none⟩ = some (.string ((rd_T25 l1_3 x5_2).f2)) ∧ w'.cell? ⟨(ad131.add ((x5_2).toNat * 6)).block, (ad131.add ((x5_2).toNat * 6)).off + 3, none⟩ = some (.slice A131_3 ((rd_T25 l1_3 x5_2).f3).length c131_3) ∧ w'.cell? ⟨(ad131.add ((x5_2).toNat * 6)).block, (ad131.add ((x5_2).toNat * 6)).off + 4, none⟩ = some (.int .i64 ((rd_T25 l1_3 x5_2).f4)) ∧ w'.cell? ⟨(ad131.add ((x5_2).toNat * 6)).block, (ad131.add ((x5_2).toNat * 6)).off + 5, none⟩ = some (.int .i64 ((rd_T25 l1_3 x5_2).f5))) (ds := []) (bl 12 0) (by kernel_rfl) rfl rfl ⟨(blk_cell BK128.out 0).trans rfl, (blk_cell BK128.out 1).trans rfl, (blk_cell BK128.out 2).trans rfl, (blk_cell BK128.out 3).trans rfl, (blk_cell BK128.out 4).trans rfl, (blk_cell BK128.out 5).trans rfl, (blk_cell BK129.out 0).trans rfl, (blk_cell BK129.out 1).trans rfl, (blk_cell BK129.out 2).trans rfl, (blk_cell BK129.out 3).trans rfl, (blk_cell BK129.out 4).trans rfl, (blk_cell BK129.out 5).trans rfl, (pw_cell_below HB.out hw130_0), (pw_cell_below HB.out hw130_1), (pw_cell_below HB.out hw130_2), (pw_cell_below HB.out hw130_3), (pw_cell_below HB.out hw130_4), (pw_cell_below HB.out hw130_5), (pw_cell_below HB.out hw131_0), (pw_cell_below HB.out hw131_1), (pw_cell_below HB.out hw131_2), (pw_cell_below HB.out hw131_3), (pw_cell_below HB.out hw131_4), (pw_cell_below HB.out hw131_5)⟩ (fun hHeld => ?_); refine with_tabW notaryref06_Placed.tab6 notaryref06_Placed.bits6 (fun HT_ HW_ => ?_)
  generalize wr.drew = w37 at BK128 BK129 HB HR130_3 HR131_3 hx130_0 hx130_1 hx130_2 hx130_3 hx130_4 hx130_5 hx131_0 hx131_1 hx131_2 hx131_3 hx131_4 hx131_5 hHeld ⊢
  refine pure_ (i := 0) (N := some 55) (v := ?_) (a' := ?_) (bl 12 1) rfl rfl (any_of HT_.out (by kernel_rfl)) (fun _ _ _ h => h) (Or.inl ⟨by rfl, ?_⟩) ?_ ?_
  rotate_left
  · intro w'; go_simp; with_reducible rfl
  rotate_left
  · simp only [Act.put, sa_, sz_, ss_, i64_w, i32_w]; rfl
  refine pure_ (i := 2) (N := some 57) (v := ?_) (a' := ?_) (bl 12 5) rfl rfl (any_of HT_.out (by kernel_rfl)) (fun _ _ _ h => h) (Or.inl ⟨by rfl, ?_⟩) ?_ ?_
  rotate_left
  · intro w'; go_simp; with_reducible rfl
  rotate_left
  · simp only [Act.put, sa_, sz_, ss_, i64_w, i32_w]; rfl
  refine pure_ (i := 5) (N := some 60) (v := ?_) (a' := ?_) (bl 12 37) rfl rfl (any_of HT_.out (by kernel_rfl)) (fun _ _ _ h => h) (Or.inl ⟨by rfl, ?_⟩) ?_ ?_
  rotate_left
  · intro w'; go_simp; with_reducible rfl
  rotate_left
  · simp only [Act.put, sa_, sz_, ss_, i64_w, i32_w]; rfl
  refine pure_ (i := 7) (N := some 62) (v := ?_) (a' := ?_) (bl 12 165) rfl rfl (any_of HT_.out (by kernel_rfl)) (fun _ _ _ h => h) (Or.inl ⟨by rfl, ?_⟩) ?_ ?_
  rotate_left
  · intro w'; go_simp; with_reducible rfl
  rotate_left
  · simp only [Act.put, sa_, sz_, ss_, i64_w, i32_w]; rfl
  refine take_ (i := 1) (N := some 56) (v := ?_) (a' := ?_) (bl 12 167) rfl rfl (take_ofW HT_.out HW_.out (by kernel_rfl)) (fun _ _ _ h => h) (Or.inl ⟨by rfl, ?_⟩) hHeld ?_ ?_
  rotate_left
  · rintro w' ⟨s0, s1, s2, s3, s4, s5, s6, s7, s8, s9, s10, s11, s12, s13, s14, s15, s16, s17, s18, s19, s20, s21, s22, s23⟩
    go_simp
    with_reducible rfl
  rotate_left
  · simp only [Act.put, sa_, sz_, ss_, i64_w, i32_w]; rfl
  refine pure_ (i := 3) (N := some 58) (v := ?_) (a' := ?_) (bl 12 175) rfl rfl (any_of HT_.out (by kernel_rfl)) (fun _ _ _ h => h) (Or.inl ⟨by rfl, ?_⟩) ?_ ?_
  rotate_left
  · intro w'; go_simp; with_reducible rfl
  rotate_left
  · simp only [Act.put, sa_, sz_, ss_, i64_w, i32_w]; rfl
  refine take_ (i := 4) (N := some 59) (v := ?_) (a' := ?_) (bl 12 191) rfl rfl (take_ofW HT_.out HW_.out (by kernel_rfl)) (fun _ _ _ h => h) (Or.inl ⟨by rfl, ?_⟩) hHeld ?_ ?_
  rotate_left
  · rintro w' ⟨s0, s1, s2, s3, s4, s5, s6, s7, s8, s9, s10, s11, s12, s13, s14, s15, s16, s17, s18, s19, s20, s21, s22, s23⟩
    go_simp
    with_reducible rfl
  rotate_left
  · simp only [Act.put, sa_, sz_, ss_, i64_w, i32_w]; rfl
  refine take_ (i := 6) (N := some 61) (v := ?_) (a' := ?_) (bl 12 255) rfl rfl (take_ofW HT_.out HW_.out (by kernel_rfl)) (fun _ _ _ h => h) (Or.inl ⟨by rfl, ?_⟩) hHeld ?_ ?_
  rotate_left
  · rintro w' ⟨s0, s1, s2, s3, s4, s5, s6, s7, s8, s9, s10, s11, s12, s13, s14, s15, s16, s17, s18, s19, s20, s21, s22, s23⟩
    go_simp
    with_reducible rfl
  rotate_left
  · simp only [Act.put, sa_, sz_, ss_, i64_w, i32_w]; rfl
  refine pure_ (i := 8) (N := some 63) (v := ?_) (a' := ?_) (bl 12 511) rfl rfl (any_of HT_.out (by kernel_rfl)) (fun _ _ _ h => h) (Or.inl ⟨by rfl, ?_⟩) ?_ ?_
  rotate_left
  · intro w'; go_simp; with_reducible rfl
  rotate_left
  · simp only [Act.put, sa_, sz_, ss_, i64_w, i32_w]; rfl
  refine take_ (i := 9) (N := some 64) (v := ?_) (a' := ?_) (bl 12 1023) rfl rfl (take_ofW HT_.out HW_.out (by kernel_rfl)) (fun _ _ _ h => h) (Or.inl ⟨by rfl, ?_⟩) hHeld ?_ ?_
  rotate_left
  · rintro w' ⟨s0, s1, s2, s3, s4, s5, s6, s7, s8, s9, s10, s11, s12, s13, s14, s15, s16, s17, s18, s19, s20, s21, s22, s23⟩
    go_simp
    with_reducible rfl
  rotate_left
  · simp only [Act.put, sa_, sz_, ss_, i64_w, i32_w]; rfl
  refine one_ (i := 10) (N := some 65) (bl 12 2047) rfl rfl (one_of HT_.out (by kernel_rfl)) (by decide) (fun K hK => ?_)
  refine goes_ Try.func14 (by kernel_rfl) rfl #[.agg #[.int .i64 ((rd_T25 l0_3 x5_2).f0), .int .i64 ((rd_T25 l0_3 x5_2).f1), .string ((rd_T25 l0_3 x5_2).f2), .slice A130_3 ((rd_T25 l0_3 x5_2).f3).length c130_3, .int .i64 ((rd_T25 l0_3 x5_2).f4), .int .i64 ((rd_T25 l0_3 x5_2).f5)], .agg #[.int .i64 ((rd_T25 l1_3 x5_2).f0), .int .i64 ((rd_T25 l1_3 x5_2).f1), .string ((rd_T25 l1_3 x5_2).f2), .slice A131_3 ((rd_T25 l1_3 x5_2).f3).length c131_3, .int .i64 ((rd_T25 l1_3 x5_2).f4), .int .i64 ((rd_T25 l1_3 x5_2).f5)]] (by rfl) rfl rfl (by (try simp only [List.map_toArray, List.map_cons, List.map_nil]); (rfl)) ?_
  with_reducible refine (ih k2 (by have := HJ2.out; have := HK2.out; omega) ((rd_T25 l0_3 x5_2).f0) ((rd_T25 l0_3 x5_2).f1) ((rd_T25 l0_3 x5_2).f2) _ _ ((rd_T25 l0_3 x5_2).f3) ((rd_T25 l0_3 x5_2).f4) ((rd_T25 l0_3 x5_2).f5) ((rd_T25 l1_3 x5_2).f0) ((rd_T25 l1_3 x5_2).f1) ((rd_T25 l1_3 x5_2).f2) _ _ ((rd_T25 l1_3 x5_2).f3) ((rd_T25 l1_3 x5_2).f4) ((rd_T25 l1_3 x5_2).f5) true _ ?side1 ?side2 ?side3 ?side4 A33.out).mono ?_
  (case side1 => exact Kd.C_below HR130_3.out HB.out)
  (case side2 => exact HC130_3.out)
  (case side3 => exact Kd.C_below HR131_3.out HB.out)
  (case side4 => exact HC131_3.out)
  rintro e w38 ⟨rfl, hb⟩
  refine ⟨_, rfl, ?_⟩
  have n0_ := Aside0.mk (blk_below (g := gb128) (o := .cells #[.int .i64 a0_0, .int .i64 a0_1, .string a0_2, .slice (some ad130) l0_3.length c0_3, .int .i64 a0_4, .int .i64 a0_5] 25 (0, 0)) (by exact BK128.out) hb)
  have n1_ := Aside0.mk (blk_below (g := gb129) (o := .cells #[.int .i64 a1_0, .int .i64 a1_1, .string a1_2, .slice (some ad131) l1_3.length c1_3, .int .i64 a1_4, .int .i64 a1_5] 25 (0, 0)) (by exact BK129.out) hb)
  have n2_ := Aside0.mk (below_step HB.out hb)
  clear BK128
  clear BK129
  clear HB
  have BK128 := n0_
  have BK129 := n1_
  have HB := n2_
  clear n0_ n1_ n2_
  (try clear hb)
  (skip)
  (skip)
  (skip)
  refine hK.out _ _ ⟨(blk_cell BK128.out 0).trans rfl, (blk_cell BK128.out 1).trans rfl, (blk_cell BK128.out 2).trans rfl, (blk_cell BK128.out 3).trans rfl, (blk_cell BK128.out 4).trans rfl, (blk_cell BK128.out 5).trans rfl, (blk_cell BK129.out 0).trans rfl, (blk_cell BK129.out 1).trans rfl, (blk_cell BK129.out 2).trans rfl, (blk_cell BK129.out 3).trans rfl, (blk_cell BK129.out 4).trans rfl, (blk_cell BK129.out 5).trans rfl, (pw_cell_below HB.out hw130_0), (pw_cell_below HB.out hw130_1), (pw_cell_below HB.out hw130_2), (pw_cell_below HB.out hw130_3), (pw_cell_below HB.out hw130_4), (pw_cell_below HB.out hw130_5), (pw_cell_below HB.out hw131_0), (pw_cell_below HB.out hw131_1), (pw_cell_below HB.out hw131_2), (pw_cell_below HB.out hw131_3), (pw_cell_below HB.out hw131_4), (pw_cell_below HB.out hw131_5)⟩ (fun hHeld => ?_)
  clear hK K
  refine norm_ (a' := ?_) ?_ ?_
  rotate_left
  · show Act.put _ (some 65) _ = _
    simp only [Act.put, sa_, sz_, ss_, i64_w, i32_w]
    rfl
  refine pure_ (i := 11) (N := some 66) (v := ?_) (a' := ?_) (bl 12 4095) rfl rfl (any_of HT_.out (by kernel_rfl)) (fun _ _ _ h => h) (Or.inl ⟨by rfl, ?_⟩) ?_ ?_
  rotate_left
  · intro w'; go_simp; with_reducible rfl
  rotate_left
  · simp only [Act.put, sa_, sz_, ss_, i64_w, i32_w]; rfl
  refine done_ (done_of HT_.out (by kernel_rfl)) ?_
  try go_wp2
  go_roundg k2
  case measure => have := HJ2.out; have := HK2.out; omega
  case rel => exact ⟨(wrap64 (x5_2 + 1)), (by (rfl)), H', ⟨by have := HJ2.out; have := HK2.out; omega⟩, ⟨by exact BK128.out⟩, ⟨by exact BK129.out⟩, ⟨HB.out⟩⟩
end Go.Proofs.Ytiamcmjdoobaeaa.PCe
