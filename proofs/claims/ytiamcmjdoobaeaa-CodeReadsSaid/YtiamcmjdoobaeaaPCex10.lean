-- SLIM: a printed text of which the unused ways are cut off
-- PRINTED by print.py (a twelfth state) out of the translation. Not trusted: Lean checks it.
import Derived.Test.YtiamcmjdoobaeaaPCex0
namespace Go.Proofs.Ytiamcmjdoobaeaa.PCe
open Go.RowKit Go.Proofs.YtiamcmjdoobaeaaW.PrintWords Go.Proofs.YtiamcmjdoobaeaaW.PrintLast Go.Proofs.YtiamcmjdoobaeaaW.PrintMore
attribute [local go_sem] max2_int min2_int max_two min_two max_three min_three max_four min_four   -- for this text's walks alone
set_option linter.unusedVariables false
set_option linter.unusedSimpArgs false

/-! ### notaryref06_Same: function 83 -/
mutual
def notaryref06_Same.j0 : Nat → Bool → Int → Int → ByteArray → List (S25) → Int → Int → Int → Int → ByteArray → List (S25) → Int → Int → Option (Bool)
  | 0, _, _, _, _, _, _, _, _, _, _, _, _, _ => none
  | k + 1, x33, x142000, x142001, x142002, x142003, x142004, x142005, x143000, x143001, x143002, x143003, x143004, x143005 => if x33 = true then (some false) else (notaryref06_Same.l0 k 0 x142000 x142001 x142002 x142003 x142004 x142005 x143000 x143001 x143002 x143003 x143004 x143005)
def notaryref06_Same.l0 : Nat → Int → Int → Int → ByteArray → List (S25) → Int → Int → Int → Int → ByteArray → List (S25) → Int → Int → Option (Bool)
  | 0, _, _, _, _, _, _, _, _, _, _, _, _, _ => none
  | k + 1, x5, x142000, x142001, x142002, x142003, x142004, x142005, x143000, x143001, x143002, x143003, x143004, x143005 => if x5 < (x142003.length : Int) then (if 0 ≤ x5 then (if x5 < (x143003.length : Int) then ((notaryref06_Same.f k ((rd_T25 x142003 x5).f0) ((rd_T25 x142003 x5).f1) ((rd_T25 x142003 x5).f2) ((rd_T25 x142003 x5).f3) ((rd_T25 x142003 x5).f4) ((rd_T25 x142003 x5).f5) ((rd_T25 x143003 x5).f0) ((rd_T25 x143003 x5).f1) ((rd_T25 x143003 x5).f2) ((rd_T25 x143003 x5).f3) ((rd_T25 x143003 x5).f4) ((rd_T25 x143003 x5).f5)).bind fun t145 => (if t145 = true then (notaryref06_Same.l0 k (wrap64 (x5 + 1)) x142000 x142001 x142002 x142003 x142004 x142005 x143000 x143001 x143002 x143003 x143004 x143005) else (some false))) else (none)) else (none)) else (some true)
def notaryref06_Same.f : Nat → Int → Int → ByteArray → List (S25) → Int → Int → Int → Int → ByteArray → List (S25) → Int → Int → Option (Bool)
  | 0, _, _, _, _, _, _, _, _, _, _, _, _ => none
  | k + 1, a0_0, a0_1, a0_2, l0_3, a0_4, a0_5, a1_0, a1_1, a1_2, l1_3, a1_4, a1_5 => if a0_0 = a1_0 then (if a0_1 = a1_1 then (if a0_2.toList = a1_2.toList then (notaryref06_Same.j0 k ((l0_3.length : Int) != (l1_3.length : Int)) a0_0 a0_1 a0_2 l0_3 a0_4 a0_5 a1_0 a1_1 a1_2 l1_3 a1_4 a1_5) else (notaryref06_Same.j0 k true a0_0 a0_1 a0_2 l0_3 a0_4 a0_5 a1_0 a1_1 a1_2 l1_3 a1_4 a1_5)) else (notaryref06_Same.j0 k true a0_0 a0_1 a0_2 l0_3 a0_4 a0_5 a1_0 a1_1 a1_2 l1_3 a1_4 a1_5)) else (notaryref06_Same.j0 k true a0_0 a0_1 a0_2 l0_3 a0_4 a0_5 a1_0 a1_1 a1_2 l1_3 a1_4 a1_5)
end
def notaryref06_Same.T6 : Bool × List (List Nat × List Nat) := (true, [([], []), ([0], [0]), ([], []), ([1, 2], [1, 2]), ([3], [3]), ([], []), ([5], [5]), ([], []), ([6, 7], [6, 7]), ([8], [8]), ([4, 9], [4, 9]), ([10], [10])])
def notaryref06_Same.B6 : List Nat := [0, 1, 0, 7, 15, 0, 32, 0, 224, 480, 1023, 2047]
theorem notaryref06_Same.tab6 : rtab .any (opsOf Try.f83 6) = notaryref06_Same.T6 := by kernel_rfl
theorem notaryref06_Same.bits6 : waitsOk notaryref06_Same.T6.2 notaryref06_Same.B6 = true := by kernel_rfl
set_option maxHeartbeats 8000000 in
set_option maxRecDepth 100000 in
theorem notaryref06_Same.calls (k : Nat) : ∀ (a0_0 : Int) (a0_1 : Int) (a0_2 : ByteArray) (A0_3 : Option Addr) (c0_3 : Nat) (l0_3 : List (S25)) (a0_4 : Int) (a0_5 : Int) (a1_0 : Int) (a1_1 : Int) (a1_2 : ByteArray) (A1_3 : Option Addr) (c1_3 : Nat) (l1_3 : List (S25)) (a1_4 : Int) (a1_5 : Int) (r : Bool) (w : World) (hr0_3 : Kd.C k25 w A0_3 l0_3.length l0_3) (hc0_3 : l0_3.length ≤ c0_3) (hr1_3 : Kd.C k25 w A1_3 l1_3.length l1_3) (hc1_3 : l1_3.length ≤ c1_3) (h : notaryref06_Same.f k a0_0 a0_1 a0_2 l0_3 a0_4 a0_5 a1_0 a1_1 a1_2 l1_3 a1_4 a1_5 = some r),
    Calls Try.prog 83 #[.agg #[.int .i64 a0_0, .int .i64 a0_1, .string a0_2, .slice A0_3 l0_3.length c0_3, .int .i64 a0_4, .int .i64 a0_5], .agg #[.int .i64 a1_0, .int .i64 a1_1, .string a1_2, .slice A1_3 l1_3.length c1_3, .int .i64 a1_4, .int .i64 a1_5]] w fun e w' => e = .returned (.bool r) ∧ Below w.heap.size w w' := by
  induction k using Nat.strongRecOn with
  | _ k ih =>
  intro a0_0 a0_1 a0_2 A0_3 c0_3 l0_3 a0_4 a0_5 a1_0 a1_1 a1_2 A1_3 c1_3 l1_3 a1_4 a1_5 r w hr0_3 hc0_3 hr1_3 hc1_3 h
  cases k with
  | zero => exact absurd h (by simp [notaryref06_Same.f])
  | succ k =>
  simp only [notaryref06_Same.f] at h
  have hu25 := Try.underlying25
  have HR0_3 := Aside0.mk hr0_3
  have HC0_3 := Aside0.mk hc0_3
  clear hr0_3 hc0_3
  have HR1_3 := Aside0.mk hr1_3
  have HC1_3 := Aside0.mk hc1_3
  clear hr1_3 hc1_3
  have HB := Aside0.mk (Below.refl w.heap.size w)
  have H : (if a0_0 = a1_0 then (if a0_1 = a1_1 then (if a0_2.toList = a1_2.toList then (notaryref06_Same.j0 k ((l0_3.length : Int) != (l1_3.length : Int)) a0_0 a0_1 a0_2 l0_3 a0_4 a0_5 a1_0 a1_1 a1_2 l1_3 a1_4 a1_5) else (notaryref06_Same.j0 k true a0_0 a0_1 a0_2 l0_3 a0_4 a0_5 a1_0 a1_1 a1_2 l1_3 a1_4 a1_5)) else (notaryref06_Same.j0 k true a0_0 a0_1 a0_2 l0_3 a0_4 a0_5 a1_0 a1_1 a1_2 l1_3 a1_4 a1_5)) else (notaryref06_Same.j0 k true a0_0 a0_1 a0_2 l0_3 a0_4 a0_5 a1_0 a1_1 a1_2 l1_3 a1_4 a1_5)) = some r := h
  clear h
  have HC3 := Aside0.mk H
  clear H
  go_enter Try.func83, Try.ntmps83
  go_upto_region 1 with (first | ((with_reducible refine gate_dst (N := 2) rfl ?_); (try (refine gate_guard (by rfl) ?_; dsimp only)); refine box_event ?hg (N := 2) ?hd (cs := #[.int .i64 a0_0, .int .i64 a0_1, .string a0_2, .slice A0_3 l0_3.length c0_3, .int .i64 a0_4, .int .i64 a0_5]) (t := 25) ?hr ?_; (case hd => rfl); (case hg => rfl); (case hr => (go_simp; done)); intro gb141 hg w4 hbox hb; have n0_ := Aside0.mk (below_step HB.out hb); have n1_ := Aside0.mk (hbox); have n2_ := Aside0.mk ((by rw [hg]; exact (below_size HB.out) : w.heap.size ≤ gb141)); have n3_ := Aside0.mk ((by rw [hg]; exact (below_size HB.out) : w.heap.size ≤ gb141)); clear HB; have HB := n0_; have BK141 := n1_; have GW141 := n2_; have GE141 := n3_; clear n0_ n1_ n2_ n3_; clear hb hbox hg) | ((with_reducible refine gate_dst (N := 3) rfl ?_); (try (refine gate_guard (by rfl) ?_; dsimp only)); refine box_event ?hg (N := 3) ?hd (cs := #[.int .i64 a1_0, .int .i64 a1_1, .string a1_2, .slice A1_3 l1_3.length c1_3, .int .i64 a1_4, .int .i64 a1_5]) (t := 25) ?hr ?_; (case hd => rfl); (case hg => rfl); (case hr => (go_simp; done)); intro gb142 hg w5 hbox hb; have n0_ := Aside0.mk (blk_below (g := gb141) (o := .cells #[.int .i64 a0_0, .int .i64 a0_1, .string a0_2, .slice A0_3 l0_3.length c0_3, .int .i64 a0_4, .int .i64 a0_5] 25 (0, 0)) (by exact BK141.out) hb); have n1_ := Aside0.mk (below_step HB.out hb); have n2_ := Aside0.mk (hbox); have n3_ := Aside0.mk ((by rw [hg]; exact (below_size HB.out) : w.heap.size ≤ gb142)); have n4_ := Aside0.mk ((by rw [hg]; exact (below_size HB.out) : w.heap.size ≤ gb142)); have n5_ := Aside0.mk ((by rw [hg]; exact Nat.ne_of_lt (blk_lt (g := gb141) (o := .cells #[.int .i64 a0_0, .int .i64 a0_1, .string a0_2, .slice A0_3 l0_3.length c0_3, .int .i64 a0_4, .int .i64 a0_5] 25 (0, 0)) (by exact BK141.out)) : gb141 ≠ gb142)); have n6_ := Aside0.mk ((by rw [hg]; exact Nat.ne_of_gt (blk_lt (g := gb141) (o := .cells #[.int .i64 a0_0, .int .i64 a0_1, .string a0_2, .slice A0_3 l0_3.length c0_3, .int .i64 a0_4, .int .i64 a0_5] 25 (0, 0)) (by exact BK141.out)) : gb142 ≠ gb141)); clear BK141; clear HB; have BK141 := n0_; have HB := n1_; have BK142 := n2_; have GW142 := n3_; have GE142 := n4_; have NB141_142 := n5_; have NB142_141 := n6_; clear n0_ n1_ n2_ n3_ n4_ n5_ n6_; clear hb hbox hg))
  (skip)
  go_cut [33] (fun v33 wc => ∃ (kq : Nat) (x33_2 : Bool), v33 = .bool x33_2 ∧ Aside0 (notaryref06_Same.j0 kq x33_2 a0_0 a0_1 a0_2 l0_3 a0_4 a0_5 a1_0 a1_1 a1_2 l1_3 a1_4 a1_5 = some r) ∧ Aside0 (kq ≤ k) ∧ Aside0 (wc.heap[gb141]? = some (.cells #[.int .i64 a0_0, .int .i64 a0_1, .string a0_2, (.slice A0_3 l0_3.length c0_3), .int .i64 a0_4, .int .i64 a0_5] 25 (0, 0))) ∧ Aside0 (wc.heap[gb142]? = some (.cells #[.int .i64 a1_0, .int .i64 a1_1, .string a1_2, (.slice A1_3 l1_3.length c1_3), .int .i64 a1_4, .int .i64 a1_5] 25 (0, 0))) ∧ Aside0 (Below w.heap.size w wc))
  case first =>
    have H := HC3.out
    clear HC3
    by_cases c6 : a0_0 = a1_0
    rotate_left
    · rw [if_neg c6] at H
      have c6b0 : (a0_0 == a1_0) = false := beq_eq_false_iff_ne.mpr c6
      have c6b1 : (a0_0 != a1_0) = true := bne_iff_ne.mpr c6
      (skip)
      have H' := Aside0.mk H
      clear H
      have hnb18 := NB141_142.out
      have hnc18 := NB142_141.out
      have hcz19_0 : w5.cell? ⟨gb141, 0, none⟩ = some (.int .i64 a0_0) := (blk_cell BK141.out 0).trans rfl
      have hcz19_1 : w5.cell? ⟨gb141, 1, none⟩ = some (.int .i64 a0_1) := (blk_cell BK141.out 1).trans rfl
      have hcz19_2 : w5.cell? ⟨gb141, 2, none⟩ = some (.string a0_2) := (blk_cell BK141.out 2).trans rfl
      have hcz19_3 : w5.cell? ⟨gb141, 3, none⟩ = some (.slice A0_3 l0_3.length c0_3) := (blk_cell BK141.out 3).trans rfl
      have hcz19_4 : w5.cell? ⟨gb141, 4, none⟩ = some (.int .i64 a0_4) := (blk_cell BK141.out 4).trans rfl
      have hcz19_5 : w5.cell? ⟨gb141, 5, none⟩ = some (.int .i64 a0_5) := (blk_cell BK141.out 5).trans rfl
      have hfz19_0 := blk_frozen BK141.out 0
      have hfz19_1 := blk_frozen BK141.out 1
      have hfz19_2 := blk_frozen BK141.out 2
      have hfz19_3 := blk_frozen BK141.out 3
      have hfz19_4 := blk_frozen BK141.out 4
      have hfz19_5 := blk_frozen BK141.out 5
      have hcz20_0 : w5.cell? ⟨gb142, 0, none⟩ = some (.int .i64 a1_0) := (blk_cell BK142.out 0).trans rfl
      have hcz20_1 : w5.cell? ⟨gb142, 1, none⟩ = some (.int .i64 a1_1) := (blk_cell BK142.out 1).trans rfl
      have hcz20_2 : w5.cell? ⟨gb142, 2, none⟩ = some (.string a1_2) := (blk_cell BK142.out 2).trans rfl
      have hcz20_3 : w5.cell? ⟨gb142, 3, none⟩ = some (.slice A1_3 l1_3.length c1_3) := (blk_cell BK142.out 3).trans rfl
      have hcz20_4 : w5.cell? ⟨gb142, 4, none⟩ = some (.int .i64 a1_4) := (blk_cell BK142.out 4).trans rfl
      have hcz20_5 : w5.cell? ⟨gb142, 5, none⟩ = some (.int .i64 a1_5) := (blk_cell BK142.out 5).trans rfl
      have hfz20_0 := blk_frozen BK142.out 0
      have hfz20_1 := blk_frozen BK142.out 1
      have hfz20_2 := blk_frozen BK142.out 2
      have hfz20_3 := blk_frozen BK142.out 3
      have hfz20_4 := blk_frozen BK142.out 4
      have hfz20_5 := blk_frozen BK142.out 5
      go_wp2
      go_meet
      case rel => exact ⟨_, (true), (by (rfl)), H', ⟨by (omega)⟩, ⟨by exact BK141.out⟩, ⟨by exact BK142.out⟩, ⟨HB.out⟩⟩
    rw [if_pos c6] at H
    have c6b0 : (a0_0 == a1_0) = true := beq_iff_eq.mpr c6
    have c6b1 : (a0_0 != a1_0) = false := bne_eq_false_iff_eq.mpr c6
    clear c6
    (skip)
    by_cases c7 : a0_1 = a1_1
    rotate_left
    · rw [if_neg c7] at H
      have c7b0 : (a0_1 == a1_1) = false := beq_eq_false_iff_ne.mpr c7
      have c7b1 : (a0_1 != a1_1) = true := bne_iff_ne.mpr c7
      have H' := Aside0.mk H
      clear H
      have hnb15 := NB141_142.out
      have hnc15 := NB142_141.out
      have hcz16_0 : w5.cell? ⟨gb141, 0, none⟩ = some (.int .i64 a0_0) := (blk_cell BK141.out 0).trans rfl
      have hcz16_1 : w5.cell? ⟨gb141, 1, none⟩ = some (.int .i64 a0_1) := (blk_cell BK141.out 1).trans rfl
      have hcz16_2 : w5.cell? ⟨gb141, 2, none⟩ = some (.string a0_2) := (blk_cell BK141.out 2).trans rfl
      have hcz16_3 : w5.cell? ⟨gb141, 3, none⟩ = some (.slice A0_3 l0_3.length c0_3) := (blk_cell BK141.out 3).trans rfl
      have hcz16_4 : w5.cell? ⟨gb141, 4, none⟩ = some (.int .i64 a0_4) := (blk_cell BK141.out 4).trans rfl
      have hcz16_5 : w5.cell? ⟨gb141, 5, none⟩ = some (.int .i64 a0_5) := (blk_cell BK141.out 5).trans rfl
      have hfz16_0 := blk_frozen BK141.out 0
      have hfz16_1 := blk_frozen BK141.out 1
      have hfz16_2 := blk_frozen BK141.out 2
      have hfz16_3 := blk_frozen BK141.out 3
      have hfz16_4 := blk_frozen BK141.out 4
      have hfz16_5 := blk_frozen BK141.out 5
      have hcz17_0 : w5.cell? ⟨gb142, 0, none⟩ = some (.int .i64 a1_0) := (blk_cell BK142.out 0).trans rfl
      have hcz17_1 : w5.cell? ⟨gb142, 1, none⟩ = some (.int .i64 a1_1) := (blk_cell BK142.out 1).trans rfl
      have hcz17_2 : w5.cell? ⟨gb142, 2, none⟩ = some (.string a1_2) := (blk_cell BK142.out 2).trans rfl
      have hcz17_3 : w5.cell? ⟨gb142, 3, none⟩ = some (.slice A1_3 l1_3.length c1_3) := (blk_cell BK142.out 3).trans rfl
      have hcz17_4 : w5.cell? ⟨gb142, 4, none⟩ = some (.int .i64 a1_4) := (blk_cell BK142.out 4).trans rfl
      have hcz17_5 : w5.cell? ⟨gb142, 5, none⟩ = some (.int .i64 a1_5) := (blk_cell BK142.out 5).trans rfl
      have hfz17_0 := blk_frozen BK142.out 0
      have hfz17_1 := blk_frozen BK142.out 1
      have hfz17_2 := blk_frozen BK142.out 2
      have hfz17_3 := blk_frozen BK142.out 3
      have hfz17_4 := blk_frozen BK142.out 4
      have hfz17_5 := blk_frozen BK142.out 5
      go_wp2
      go_meet
      case rel => exact ⟨_, (true), (by (rfl)), H', ⟨by (omega)⟩, ⟨by exact BK141.out⟩, ⟨by exact BK142.out⟩, ⟨HB.out⟩⟩
    rw [if_pos c7] at H
    have c7b0 : (a0_1 == a1_1) = true := beq_iff_eq.mpr c7
    have c7b1 : (a0_1 != a1_1) = false := bne_eq_false_iff_eq.mpr c7
    clear c7
    by_cases c8 : a0_2.toList = a1_2.toList
    rotate_left
    · rw [if_neg c8] at H
      have c8b0 : (a0_2.toList == a1_2.toList) = false := beq_eq_false_iff_ne.mpr c8
      have c8b1 : (a0_2.toList != a1_2.toList) = true := bne_iff_ne.mpr c8
      have H' := Aside0.mk H
      clear H
      have hnb12 := NB141_142.out
      have hnc12 := NB142_141.out
      have hcz13_0 : w5.cell? ⟨gb141, 0, none⟩ = some (.int .i64 a0_0) := (blk_cell BK141.out 0).trans rfl
      have hcz13_1 : w5.cell? ⟨gb141, 1, none⟩ = some (.int .i64 a0_1) := (blk_cell BK141.out 1).trans rfl
      have hcz13_2 : w5.cell? ⟨gb141, 2, none⟩ = some (.string a0_2) := (blk_cell BK141.out 2).trans rfl
      have hcz13_3 : w5.cell? ⟨gb141, 3, none⟩ = some (.slice A0_3 l0_3.length c0_3) := (blk_cell BK141.out 3).trans rfl
      have hcz13_4 : w5.cell? ⟨gb141, 4, none⟩ = some (.int .i64 a0_4) := (blk_cell BK141.out 4).trans rfl
      have hcz13_5 : w5.cell? ⟨gb141, 5, none⟩ = some (.int .i64 a0_5) := (blk_cell BK141.out 5).trans rfl
      have hfz13_0 := blk_frozen BK141.out 0
      have hfz13_1 := blk_frozen BK141.out 1
      have hfz13_2 := blk_frozen BK141.out 2
      have hfz13_3 := blk_frozen BK141.out 3
      have hfz13_4 := blk_frozen BK141.out 4
      have hfz13_5 := blk_frozen BK141.out 5
      have hcz14_0 : w5.cell? ⟨gb142, 0, none⟩ = some (.int .i64 a1_0) := (blk_cell BK142.out 0).trans rfl
      have hcz14_1 : w5.cell? ⟨gb142, 1, none⟩ = some (.int .i64 a1_1) := (blk_cell BK142.out 1).trans rfl
      have hcz14_2 : w5.cell? ⟨gb142, 2, none⟩ = some (.string a1_2) := (blk_cell BK142.out 2).trans rfl
      have hcz14_3 : w5.cell? ⟨gb142, 3, none⟩ = some (.slice A1_3 l1_3.length c1_3) := (blk_cell BK142.out 3).trans rfl
      have hcz14_4 : w5.cell? ⟨gb142, 4, none⟩ = some (.int .i64 a1_4) := (blk_cell BK142.out 4).trans rfl
      have hcz14_5 : w5.cell? ⟨gb142, 5, none⟩ = some (.int .i64 a1_5) := (blk_cell BK142.out 5).trans rfl
      have hfz14_0 := blk_frozen BK142.out 0
      have hfz14_1 := blk_frozen BK142.out 1
      have hfz14_2 := blk_frozen BK142.out 2
      have hfz14_3 := blk_frozen BK142.out 3
      have hfz14_4 := blk_frozen BK142.out 4
      have hfz14_5 := blk_frozen BK142.out 5
      go_wp2
      go_meet
      case rel => exact ⟨_, (true), (by (rfl)), H', ⟨by (omega)⟩, ⟨by exact BK141.out⟩, ⟨by exact BK142.out⟩, ⟨HB.out⟩⟩
    rw [if_pos c8] at H
    have c8b0 : (a0_2.toList == a1_2.toList) = true := beq_iff_eq.mpr c8
    have c8b1 : (a0_2.toList != a1_2.toList) = false := bne_eq_false_iff_eq.mpr c8
    clear c8
    have H' := Aside0.mk H
    clear H
    have hnb9 := NB141_142.out
    have hnc9 := NB142_141.out
    have hcz10_0 : w5.cell? ⟨gb141, 0, none⟩ = some (.int .i64 a0_0) := (blk_cell BK141.out 0).trans rfl
    have hcz10_1 : w5.cell? ⟨gb141, 1, none⟩ = some (.int .i64 a0_1) := (blk_cell BK141.out 1).trans rfl
    have hcz10_2 : w5.cell? ⟨gb141, 2, none⟩ = some (.string a0_2) := (blk_cell BK141.out 2).trans rfl
    have hcz10_3 : w5.cell? ⟨gb141, 3, none⟩ = some (.slice A0_3 l0_3.length c0_3) := (blk_cell BK141.out 3).trans rfl
    have hcz10_4 : w5.cell? ⟨gb141, 4, none⟩ = some (.int .i64 a0_4) := (blk_cell BK141.out 4).trans rfl
    have hcz10_5 : w5.cell? ⟨gb141, 5, none⟩ = some (.int .i64 a0_5) := (blk_cell BK141.out 5).trans rfl
    have hfz10_0 := blk_frozen BK141.out 0
    have hfz10_1 := blk_frozen BK141.out 1
    have hfz10_2 := blk_frozen BK141.out 2
    have hfz10_3 := blk_frozen BK141.out 3
    have hfz10_4 := blk_frozen BK141.out 4
    have hfz10_5 := blk_frozen BK141.out 5
    have hcz11_0 : w5.cell? ⟨gb142, 0, none⟩ = some (.int .i64 a1_0) := (blk_cell BK142.out 0).trans rfl
    have hcz11_1 : w5.cell? ⟨gb142, 1, none⟩ = some (.int .i64 a1_1) := (blk_cell BK142.out 1).trans rfl
    have hcz11_2 : w5.cell? ⟨gb142, 2, none⟩ = some (.string a1_2) := (blk_cell BK142.out 2).trans rfl
    have hcz11_3 : w5.cell? ⟨gb142, 3, none⟩ = some (.slice A1_3 l1_3.length c1_3) := (blk_cell BK142.out 3).trans rfl
    have hcz11_4 : w5.cell? ⟨gb142, 4, none⟩ = some (.int .i64 a1_4) := (blk_cell BK142.out 4).trans rfl
    have hcz11_5 : w5.cell? ⟨gb142, 5, none⟩ = some (.int .i64 a1_5) := (blk_cell BK142.out 5).trans rfl
    have hfz11_0 := blk_frozen BK142.out 0
    have hfz11_1 := blk_frozen BK142.out 1
    have hfz11_2 := blk_frozen BK142.out 2
    have hfz11_3 := blk_frozen BK142.out 3
    have hfz11_4 := blk_frozen BK142.out 4
    have hfz11_5 := blk_frozen BK142.out 5
    go_wp2
    go_meet
    case rel => exact ⟨_, (((l0_3.length : Int) != (l1_3.length : Int))), (by (rfl)), H', ⟨by (omega)⟩, ⟨by exact BK141.out⟩, ⟨by exact BK142.out⟩, ⟨HB.out⟩⟩
  clear HC3
  obtain ⟨kq, x33_2, rfl, HA, HJ2, BK141, BK142, HB⟩ := hcut
  rcases kq with _ | kj2
  · exact absurd HA.out (by simp [notaryref06_Same.j0])
  have H := HA.out
  clear HA
  simp only [notaryref06_Same.j0] at H
  by_cases c21 : x33_2 = true
  · subst c21
    have H1 : (some false) = some r := by rw [if_pos rfl] at H; exact H
    clear H
    have H := H1
    clear H1
    obtain rfl := Option.some.inj H
    go_wp2
    go_ret
    exact ⟨by (rfl), HB.out⟩
  replace c21 := Bool.eq_false_iff.mpr c21
  subst c21
  have H1 : (notaryref06_Same.l0 kj2 0 a0_0 a0_1 a0_2 l0_3 a0_4 a0_5 a1_0 a1_1 a1_2 l1_3 a1_4 a1_5) = some r := by rw [if_neg (show ¬ (false = true) by decide)] at H; exact H
  clear H
  have H := H1
  clear H1
  have H' := Aside0.mk H
  clear H
  go_wp2
  go_loopg [5] kj2 (fun kq v5 w' => ∃ (x5_2 : Int), v5 = .int .i64 x5_2 ∧ Aside0 (notaryref06_Same.l0 kq x5_2 a0_0 a0_1 a0_2 l0_3 a0_4 a0_5 a1_0 a1_1 a1_2 l1_3 a1_4 a1_5 = some r) ∧ Aside0 (kq ≤ kj2) ∧ Aside0 (w'.heap[gb141]? = some (.cells #[.int .i64 a0_0, .int .i64 a0_1, .string a0_2, (.slice A0_3 l0_3.length c0_3), .int .i64 a0_4, .int .i64 a0_5] 25 (0, 0))) ∧ Aside0 (w'.heap[gb142]? = some (.cells #[.int .i64 a1_0, .int .i64 a1_1, .string a1_2, (.slice A1_3 l1_3.length c1_3), .int .i64 a1_4, .int .i64 a1_5] 25 (0, 0))) ∧ Aside0 (Below w.heap.size w w'))
  case atStart => exact ⟨(0), (by (rfl)), H', ⟨Nat.le_refl _⟩, ⟨by exact BK141.out⟩, ⟨by exact BK142.out⟩, ⟨HB.out⟩⟩
  clear H'
  obtain ⟨x5_2, rfl, HA, HK2, BK141, BK142, HB⟩ := hrel
  rcases gk with _ | k2
  · exact absurd HA.out (by simp [notaryref06_Same.l0])
  have H := HA.out
  clear HA
  simp only [notaryref06_Same.l0] at H
  by_cases c22 : x5_2 < (l0_3.length : Int)
  rotate_left
  · rw [if_neg c22] at H
    have c22b0 : decide (x5_2 < (l0_3.length : Int)) = false := decide_eq_false c22
    clear c22
    obtain rfl := Option.some.inj H
    have hnb35 := NB141_142.out
    have hnc35 := NB142_141.out
    have hcz36_0 : wr.cell? ⟨gb141, 0, none⟩ = some (.int .i64 a0_0) := (blk_cell BK141.out 0).trans rfl
    have hcz36_1 : wr.cell? ⟨gb141, 1, none⟩ = some (.int .i64 a0_1) := (blk_cell BK141.out 1).trans rfl
    have hcz36_2 : wr.cell? ⟨gb141, 2, none⟩ = some (.string a0_2) := (blk_cell BK141.out 2).trans rfl
    have hcz36_3 : wr.cell? ⟨gb141, 3, none⟩ = some (.slice A0_3 l0_3.length c0_3) := (blk_cell BK141.out 3).trans rfl
    have hcz36_4 : wr.cell? ⟨gb141, 4, none⟩ = some (.int .i64 a0_4) := (blk_cell BK141.out 4).trans rfl
    have hcz36_5 : wr.cell? ⟨gb141, 5, none⟩ = some (.int .i64 a0_5) := (blk_cell BK141.out 5).trans rfl
    have hfz36_0 := blk_frozen BK141.out 0
    have hfz36_1 := blk_frozen BK141.out 1
    have hfz36_2 := blk_frozen BK141.out 2
    have hfz36_3 := blk_frozen BK141.out 3
    have hfz36_4 := blk_frozen BK141.out 4
    have hfz36_5 := blk_frozen BK141.out 5
    go_wp2
    go_ret
    exact ⟨by (rfl), HB.out⟩

  rw [if_pos c22] at H
  have c22b0 : decide (x5_2 < (l0_3.length : Int)) = true := decide_eq_true c22
  clear c22
  by_cases c23 : 0 ≤ x5_2
  rotate_left
  · rw [if_neg c23] at H
    exact absurd H (by simp)
  rw [if_pos c23] at H
  have c23b0 : decide (0 ≤ x5_2) = true := decide_eq_true c23
  clear c23
  by_cases c24 : x5_2 < (l1_3.length : Int)
  rotate_left
  · rw [if_neg c24] at H
    exact absurd H (by simp)
  rw [if_pos c24] at H
  have c24b0 : decide (x5_2 < (l1_3.length : Int)) = true := decide_eq_true c24
  clear c24
  replace H := Option.bind_eq_some_iff.mp H
  obtain ⟨t145, A250, H⟩ := H
  replace H : (if t145 = true then (notaryref06_Same.l0 k2 (wrap64 (x5_2 + 1)) a0_0 a0_1 a0_2 l0_3 a0_4 a0_5 a1_0 a1_1 a1_2 l1_3 a1_4 a1_5) else (some false)) = some r := H
  have A25 := Aside0.mk A250
  clear A250
  by_cases c26 : t145 = true
  rotate_left
  · replace c26 := Bool.eq_false_iff.mpr c26
    subst c26
    have H1 : (some false) = some r := by rw [if_neg (show ¬ (false = true) by decide)] at H; exact H
    clear H
    have H := H1
    clear H1
    obtain rfl := Option.some.inj H
    have hnb31 := NB141_142.out
    have hnc31 := NB142_141.out
    have hcz32_0 : wr.cell? ⟨gb141, 0, none⟩ = some (.int .i64 a0_0) := (blk_cell BK141.out 0).trans rfl
    have hcz32_1 : wr.cell? ⟨gb141, 1, none⟩ = some (.int .i64 a0_1) := (blk_cell BK141.out 1).trans rfl
    have hcz32_2 : wr.cell? ⟨gb141, 2, none⟩ = some (.string a0_2) := (blk_cell BK141.out 2).trans rfl
    have hcz32_3 : wr.cell? ⟨gb141, 3, none⟩ = some (.slice A0_3 l0_3.length c0_3) := (blk_cell BK141.out 3).trans rfl
    have hcz32_4 : wr.cell? ⟨gb141, 4, none⟩ = some (.int .i64 a0_4) := (blk_cell BK141.out 4).trans rfl
    have hcz32_5 : wr.cell? ⟨gb141, 5, none⟩ = some (.int .i64 a0_5) := (blk_cell BK141.out 5).trans rfl
    have hfz32_0 := blk_frozen BK141.out 0
    have hfz32_1 := blk_frozen BK141.out 1
    have hfz32_2 := blk_frozen BK141.out 2
    have hfz32_3 := blk_frozen BK141.out 3
    have hfz32_4 := blk_frozen BK141.out 4
    have hfz32_5 := blk_frozen BK141.out 5
    try go_wp2
    have n0_ := Aside0.mk (blk_drew BK141.out)
    have n1_ := Aside0.mk (blk_drew BK142.out)
    have n2_ := Aside0.mk (below_drew1 HB.out)
    clear BK141
    clear BK142
    clear HB
    have BK141 := n0_
    have BK142 := n1_
    have HB := n2_
    clear n0_ n1_ n2_
    have p143 : 0 ≤ (x5_2 : Int) := of_decide_eq_true (by (with_reducible assumption))
    have q143 : x5_2 < (l0_3.length : Int) := of_decide_eq_true (by (with_reducible assumption))
    obtain ⟨ad143, A143_3, c143_3, e143, hx143_0, hx143_1, hx143_2, hx143_3, hx143_4, hx143_5, hl143_3, hi143_3⟩ := at_T25 HR0_3.out x5_2 p143 q143
    have hw143_5 := hx143_5
    have hw143_4 := hx143_4
    have hw143_3 := hx143_3
    have hw143_2 := hx143_2
    have hw143_1 := hx143_1
    have hw143_0 := hx143_0
    cases e143
    replace hx143_0 := pw_cell_below HB.out hx143_0
    replace hx143_1 := pw_cell_below HB.out hx143_1
    replace hx143_2 := pw_cell_below HB.out hx143_2
    replace hx143_3 := pw_cell_below HB.out hx143_3
    replace hx143_4 := pw_cell_below HB.out hx143_4
    replace hx143_5 := pw_cell_below HB.out hx143_5
    have HR143_3 := Aside0.mk hi143_3
    have HC143_3 := Aside0.mk hl143_3
    clear hi143_3 hl143_3
    replace p143 := eq_true p143
    replace q143 := eq_true q143
    have p144 : 0 ≤ (x5_2 : Int) := of_decide_eq_true (by (with_reducible assumption))
    have q144 : x5_2 < (l1_3.length : Int) := of_decide_eq_true (by (with_reducible assumption))
    obtain ⟨ad144, A144_3, c144_3, e144, hx144_0, hx144_1, hx144_2, hx144_3, hx144_4, hx144_5, hl144_3, hi144_3⟩ := at_T25 HR1_3.out x5_2 p144 q144
    have hw144_5 := hx144_5
    have hw144_4 := hx144_4
    have hw144_3 := hx144_3
    have hw144_2 := hx144_2
    have hw144_1 := hx144_1
    have hw144_0 := hx144_0
    cases e144
    replace hx144_0 := pw_cell_below HB.out hx144_0
    replace hx144_1 := pw_cell_below HB.out hx144_1
    replace hx144_2 := pw_cell_below HB.out hx144_2
    replace hx144_3 := pw_cell_below HB.out hx144_3
    replace hx144_4 := pw_cell_below HB.out hx144_4
    replace hx144_5 := pw_cell_below HB.out hx144_5
    have HR144_3 := Aside0.mk hi144_3
    have HC144_3 := Aside0.mk hl144_3
    clear hi144_3 hl144_3
    replace p144 := eq_true p144
    replace q144 := eq_true q144
    refine start_ (n := 12) (S := fun w' => w'.cell? ⟨gb141, 0, none⟩ = some (.int .i64 a0_0) ∧ w'.cell? ⟨gb141, 1, none⟩ = some (.int .i64 a0_1) ∧ w'.cell? ⟨gb141, 2, none⟩ = some (.string a0_2) ∧ w'.cell? ⟨gb141, 3, none⟩ = some (.slice (some ad143) l0_3.length c0_3) ∧ w'.cell? ⟨gb141, 4, none⟩ = some (.int .i64 a0_4) ∧ w'.cell? ⟨gb141, 5, none⟩ = some (.int .i64 a0_5) ∧ w'.cell? ⟨gb142, 0, none⟩ = some (.int .i64 a1_0) ∧ w'.cell? ⟨gb142, 1, none⟩ = some (.int .i64 a1_1) ∧ w'.cell? ⟨gb142, 2, none⟩ = some (.string a1_2) ∧ w'.cell? ⟨gb142, 3, none⟩ = some (.slice (some ad144) l1_3.length c1_3) ∧ w'.cell? ⟨gb142, 4, none⟩ = some (.int .i64 a1_4) ∧ w'.cell? ⟨gb142, 5, none⟩ = some (.int .i64 a1_5) ∧ w'.cell? (ad143.add ((x5_2).toNat * 6)) = some (.int .i64 ((rd_T25 l0_3 x5_2).f0)) ∧ w'.cell? ⟨(ad143.add ((x5_2).toNat * 6)).block, (ad143.add ((x5_2).toNat * 6)).off + 1, none⟩ = some (.int .i64 ((rd_T25 l0_3 x5_2).f1)) ∧ w'.cell? ⟨(ad143.add ((x5_2).toNat * 6)).block, (ad143.add ((x5_2).toNat * 6)).off + 2, none⟩ = some (.string ((rd_T25 l0_3 x5_2).f2)) ∧ w'.cell? ⟨(ad143.add ((x5_2).toNat * 6)).block, (ad143.add ((x5_2).toNat * 6)).off + 3, none⟩ = some (.slice A143_3 ((rd_T25 l0_3 x5_2).f3).length c143_3) ∧ w'.cell? ⟨(ad143.add ((x5_2).toNat * 6)).block, (ad143.add ((x5_2).toNat * 6)).off + 4, none⟩ = some (.int .i64 ((rd_T25 l0_3 x5_2).f4)) ∧ w'.cell? ⟨(ad143.add ((x5_2).toNat * 6)).block, (ad143.add ((x5_2).toNat * 6)).off + 5, none⟩ = some (.int .i64 ((rd_T25 l0_3 x5_2).f5)) ∧ w'.cell? (ad144.add ((x5_2).toNat * 6)) = some (.int .i64 ((rd_T25 l1_3 x5_2).f0)) ∧ w'.cell? ⟨(ad144.add ((x5_2).toNat * 6)).block, (ad144.add ((x5_2).toNat * 6)).off + 1, none⟩ = some (.int .i64 ((rd_T25 l1_3 x5_2).f1)) ∧ w'.cell? ⟨(ad144.add ((x5_2).toNat * 6)).block, (ad144.add ((x5_2).toNat * 6)).off + 2, none⟩ = some (.string ((rd_T25 l1_3 x5_2).f2)) ∧ w'.cell? ⟨(ad144.add ((x5_2).toNat * 6)).block, (ad144.add ((x5_2).toNat * 6)).off + 3, none⟩ = some (.slice A144_3 ((rd_T25 l1_3 x5_2).f3).length c144_3) ∧ w'.cell? ⟨(ad144.add ((x5_2).toNat * 6)).block, (ad144.add ((x5_2).toNat * 6)).off + 4, none⟩ = some (.int .i64 ((rd_T25 l1_3 x5_2).f4)) ∧ w'.cell? ⟨(ad144.add ((x5_2).toNat * 6)).block, (ad144.add ((x5_2).toNat * 6)).off + 5, none⟩ = some (.int .i64 ((rd_T25 l1_3 x5_2).f5))) (ds := []) (bl 12 0) (by kernel_rfl) rfl rfl ⟨(blk_cell BK141.out 0).trans rfl, (blk_cell BK141.out 1).trans rfl, (blk_cell BK141.out 2).trans rfl, (blk_cell BK141.out 3).trans rfl, (blk_cell BK141.out 4).trans rfl, (blk_cell BK141.out 5).trans rfl, (blk_cell BK142.out 0).trans rfl, (blk_cell BK142.out 1).trans rfl, (blk_cell BK142.out 2).trans rfl, (blk_cell BK142.out 3).trans rfl, (blk_cell BK142.out 4).trans rfl, (blk_cell BK142.out 5).trans rfl, (pw_cell_below HB.out hw143_0), (pw_cell_below HB.out hw143_1), (pw_cell_below HB.out hw143_2), (pw_cell_below HB.out hw143_3), (pw_cell_below HB.out hw143_4), (pw_cell_below HB.out hw143_5), (pw_cell_below HB.out hw144_0), (pw_cell_below HB.out hw144_1), (pw_cell_below HB.out hw144_2), (pw_cell_below HB.out hw144_3), (pw_cell_below HB.out hw144_4), (pw_cell_below HB.out hw144_5)⟩ (fun hHeld => ?_); refine with_tabW notaryref06_Same.tab6 notaryref06_Same.bits6 (fun HT_ HW_ => ?_)
    generalize wr.drew = w33 at BK141 BK142 HB HR143_3 HR144_3 hx143_0 hx143_1 hx143_2 hx143_3 hx143_4 hx143_5 hx144_0 hx144_1 hx144_2 hx144_3 hx144_4 hx144_5 hHeld ⊢
    refine pure_ (i := 0) (N := some 41) (v := ?_) (a' := ?_) (bl 12 1) rfl rfl (any_of HT_.out (by kernel_rfl)) (fun _ _ _ h => h) (Or.inl ⟨by rfl, ?_⟩) ?_ ?_
    rotate_left
    · intro w'; go_simp; with_reducible rfl
    rotate_left
    · simp only [Act.put, sa_, sz_, ss_, i64_w, i32_w]; rfl
    refine pure_ (i := 2) (N := some 43) (v := ?_) (a' := ?_) (bl 12 5) rfl rfl (any_of HT_.out (by kernel_rfl)) (fun _ _ _ h => h) (Or.inl ⟨by rfl, ?_⟩) ?_ ?_
    rotate_left
    · intro w'; go_simp; with_reducible rfl
    rotate_left
    · simp only [Act.put, sa_, sz_, ss_, i64_w, i32_w]; rfl
    refine pure_ (i := 5) (N := some 46) (v := ?_) (a' := ?_) (bl 12 37) rfl rfl (any_of HT_.out (by kernel_rfl)) (fun _ _ _ h => h) (Or.inl ⟨by rfl, ?_⟩) ?_ ?_
    rotate_left
    · intro w'; go_simp; with_reducible rfl
    rotate_left
    · simp only [Act.put, sa_, sz_, ss_, i64_w, i32_w]; rfl
    refine pure_ (i := 7) (N := some 48) (v := ?_) (a' := ?_) (bl 12 165) rfl rfl (any_of HT_.out (by kernel_rfl)) (fun _ _ _ h => h) (Or.inl ⟨by rfl, ?_⟩) ?_ ?_
    rotate_left
    · intro w'; go_simp; with_reducible rfl
    rotate_left
    · simp only [Act.put, sa_, sz_, ss_, i64_w, i32_w]; rfl
    refine take_ (i := 1) (N := some 42) (v := ?_) (a' := ?_) (bl 12 167) rfl rfl (take_ofW HT_.out HW_.out (by kernel_rfl)) (fun _ _ _ h => h) (Or.inl ⟨by rfl, ?_⟩) hHeld ?_ ?_
    rotate_left
    · rintro w' ⟨s0, s1, s2, s3, s4, s5, s6, s7, s8, s9, s10, s11, s12, s13, s14, s15, s16, s17, s18, s19, s20, s21, s22, s23⟩
      go_simp
      with_reducible rfl
    rotate_left
    · simp only [Act.put, sa_, sz_, ss_, i64_w, i32_w]; rfl
    refine pure_ (i := 3) (N := some 44) (v := ?_) (a' := ?_) (bl 12 175) rfl rfl (any_of HT_.out (by kernel_rfl)) (fun _ _ _ h => h) (Or.inl ⟨by rfl, ?_⟩) ?_ ?_
    rotate_left
    · intro w'; go_simp; with_reducible rfl
    rotate_left
    · simp only [Act.put, sa_, sz_, ss_, i64_w, i32_w]; rfl
    refine take_ (i := 4) (N := some 45) (v := ?_) (a' := ?_) (bl 12 191) rfl rfl (take_ofW HT_.out HW_.out (by kernel_rfl)) (fun _ _ _ h => h) (Or.inl ⟨by rfl, ?_⟩) hHeld ?_ ?_
    rotate_left
    · rintro w' ⟨s0, s1, s2, s3, s4, s5, s6, s7, s8, s9, s10, s11, s12, s13, s14, s15, s16, s17, s18, s19, s20, s21, s22, s23⟩
      go_simp
      with_reducible rfl
    rotate_left
    · simp only [Act.put, sa_, sz_, ss_, i64_w, i32_w]; rfl
    refine take_ (i := 6) (N := some 47) (v := ?_) (a' := ?_) (bl 12 255) rfl rfl (take_ofW HT_.out HW_.out (by kernel_rfl)) (fun _ _ _ h => h) (Or.inl ⟨by rfl, ?_⟩) hHeld ?_ ?_
    rotate_left
    · rintro w' ⟨s0, s1, s2, s3, s4, s5, s6, s7, s8, s9, s10, s11, s12, s13, s14, s15, s16, s17, s18, s19, s20, s21, s22, s23⟩
      go_simp
      with_reducible rfl
    rotate_left
    · simp only [Act.put, sa_, sz_, ss_, i64_w, i32_w]; rfl
    refine pure_ (i := 8) (N := some 49) (v := ?_) (a' := ?_) (bl 12 511) rfl rfl (any_of HT_.out (by kernel_rfl)) (fun _ _ _ h => h) (Or.inl ⟨by rfl, ?_⟩) ?_ ?_
    rotate_left
    · intro w'; go_simp; with_reducible rfl
    rotate_left
    · simp only [Act.put, sa_, sz_, ss_, i64_w, i32_w]; rfl
    refine take_ (i := 9) (N := some 50) (v := ?_) (a' := ?_) (bl 12 1023) rfl rfl (take_ofW HT_.out HW_.out (by kernel_rfl)) (fun _ _ _ h => h) (Or.inl ⟨by rfl, ?_⟩) hHeld ?_ ?_
    rotate_left
    · rintro w' ⟨s0, s1, s2, s3, s4, s5, s6, s7, s8, s9, s10, s11, s12, s13, s14, s15, s16, s17, s18, s19, s20, s21, s22, s23⟩
      go_simp
      with_reducible rfl
    rotate_left
    · simp only [Act.put, sa_, sz_, ss_, i64_w, i32_w]; rfl
    refine one_ (i := 10) (N := some 51) (bl 12 2047) rfl rfl (one_of HT_.out (by kernel_rfl)) (by decide) (fun K hK => ?_)
    refine goes_ Try.func83 (by kernel_rfl) rfl #[.agg #[.int .i64 ((rd_T25 l0_3 x5_2).f0), .int .i64 ((rd_T25 l0_3 x5_2).f1), .string ((rd_T25 l0_3 x5_2).f2), .slice A143_3 ((rd_T25 l0_3 x5_2).f3).length c143_3, .int .i64 ((rd_T25 l0_3 x5_2).f4), .int .i64 ((rd_T25 l0_3 x5_2).f5)], .agg #[.int .i64 ((rd_T25 l1_3 x5_2).f0), .int .i64 ((rd_T25 l1_3 x5_2).f1), .string ((rd_T25 l1_3 x5_2).f2), .slice A144_3 ((rd_T25 l1_3 x5_2).f3).length c144_3, .int .i64 ((rd_T25 l1_3 x5_2).f4), .int .i64 ((rd_T25 l1_3 x5_2).f5)]] (by rfl) rfl rfl (by (try simp only [List.map_toArray, List.map_cons, List.map_nil]); (rfl)) ?_
    with_reducible refine (ih k2 (by have := HJ2.out; have := HK2.out; omega) ((rd_T25 l0_3 x5_2).f0) ((rd_T25 l0_3 x5_2).f1) ((rd_T25 l0_3 x5_2).f2) _ _ ((rd_T25 l0_3 x5_2).f3) ((rd_T25 l0_3 x5_2).f4) ((rd_T25 l0_3 x5_2).f5) ((rd_T25 l1_3 x5_2).f0) ((rd_T25 l1_3 x5_2).f1) ((rd_T25 l1_3 x5_2).f2) _ _ ((rd_T25 l1_3 x5_2).f3) ((rd_T25 l1_3 x5_2).f4) ((rd_T25 l1_3 x5_2).f5) false _ ?side1 ?side2 ?side3 ?side4 A25.out).mono ?_
    (case side1 => exact Kd.C_below HR143_3.out HB.out)
    (case side2 => exact HC143_3.out)
    (case side3 => exact Kd.C_below HR144_3.out HB.out)
    (case side4 => exact HC144_3.out)
    rintro e w34 ⟨rfl, hb⟩
    refine ⟨_, rfl, ?_⟩
    have n0_ := Aside0.mk (blk_below (g := gb141) (o := .cells #[.int .i64 a0_0, .int .i64 a0_1, .string a0_2, .slice (some ad143) l0_3.length c0_3, .int .i64 a0_4, .int .i64 a0_5] 25 (0, 0)) (by exact BK141.out) hb)
    have n1_ := Aside0.mk (blk_below (g := gb142) (o := .cells #[.int .i64 a1_0, .int .i64 a1_1, .string a1_2, .slice (some ad144) l1_3.length c1_3, .int .i64 a1_4, .int .i64 a1_5] 25 (0, 0)) (by exact BK142.out) hb)
    have n2_ := Aside0.mk (below_step HB.out hb)
    clear BK141
    clear BK142
    clear HB
    have BK141 := n0_
    have BK142 := n1_
    have HB := n2_
    clear n0_ n1_ n2_
    (try clear hb)
    (skip)
    (skip)
    (skip)
    refine hK.out _ _ ⟨(blk_cell BK141.out 0).trans rfl, (blk_cell BK141.out 1).trans rfl, (blk_cell BK141.out 2).trans rfl, (blk_cell BK141.out 3).trans rfl, (blk_cell BK141.out 4).trans rfl, (blk_cell BK141.out 5).trans rfl, (blk_cell BK142.out 0).trans rfl, (blk_cell BK142.out 1).trans rfl, (blk_cell BK142.out 2).trans rfl, (blk_cell BK142.out 3).trans rfl, (blk_cell BK142.out 4).trans rfl, (blk_cell BK142.out 5).trans rfl, (pw_cell_below HB.out hw143_0), (pw_cell_below HB.out hw143_1), (pw_cell_below HB.out hw143_2), (pw_cell_below HB.out hw143_3), (pw_cell_below HB.out hw143_4), (pw_cell_below HB.out hw143_5), (pw_cell_below HB.out hw144_0), (pw_cell_below HB.out hw144_1), (pw_cell_below HB.out hw144_2), (pw_cell_below HB.out hw144_3), (pw_cell_below HB.out hw144_4), (pw_cell_below HB.out hw144_5)⟩ (fun hHeld => ?_)
    clear hK K
    refine norm_ (a' := ?_) ?_ ?_
    rotate_left
    · show Act.put _ (some 51) _ = _
      simp only [Act.put, sa_, sz_, ss_, i64_w, i32_w]
      rfl
    refine pure_ (i := 11) (N := some 52) (v := ?_) (a' := ?_) (bl 12 4095) rfl rfl (any_of HT_.out (by kernel_rfl)) (fun _ _ _ h => h) (Or.inl ⟨by rfl, ?_⟩) ?_ ?_
    rotate_left
    · intro w'; go_simp; with_reducible rfl
    rotate_left
    · simp only [Act.put, sa_, sz_, ss_, i64_w, i32_w]; rfl
    refine done_ (done_of HT_.out (by kernel_rfl)) ?_
    try go_wp2
    go_ret
    exact ⟨by (rfl), HB.out⟩
  subst c26
  have H1 : (notaryref06_Same.l0 k2 (wrap64 (x5_2 + 1)) a0_0 a0_1 a0_2 l0_3 a0_4 a0_5 a1_0 a1_1 a1_2 l1_3 a1_4 a1_5) = some r := by rw [if_pos rfl] at H; exact H
  clear H
  have H := H1
  clear H1
  have H' := Aside0.mk H
  clear H
  have hnb27 := NB141_142.out
  have hnc27 := NB142_141.out
  have hcz28_0 : wr.cell? ⟨gb141, 0, none⟩ = some (.int .i64 a0_0) := (blk_cell BK141.out 0).trans rfl
  have hcz28_1 : wr.cell? ⟨gb141, 1, none⟩ = some (.int .i64 a0_1) := (blk_cell BK141.out 1).trans rfl
  have hcz28_2 : wr.cell? ⟨gb141, 2, none⟩ = some (.string a0_2) := (blk_cell BK141.out 2).trans rfl
  have hcz28_3 : wr.cell? ⟨gb141, 3, none⟩ = some (.slice A0_3 l0_3.length c0_3) := (blk_cell BK141.out 3).trans rfl
  have hcz28_4 : wr.cell? ⟨gb141, 4, none⟩ = some (.int .i64 a0_4) := (blk_cell BK141.out 4).trans rfl
  have hcz28_5 : wr.cell? ⟨gb141, 5, none⟩ = some (.int .i64 a0_5) := (blk_cell BK141.out 5).trans rfl
  have hfz28_0 := blk_frozen BK141.out 0
  have hfz28_1 := blk_frozen BK141.out 1
  have hfz28_2 := blk_frozen BK141.out 2
  have hfz28_3 := blk_frozen BK141.out 3
  have hfz28_4 := blk_frozen BK141.out 4
  have hfz28_5 := blk_frozen BK141.out 5
  try go_wp2
  have n0_ := Aside0.mk (blk_drew BK141.out)
  have n1_ := Aside0.mk (blk_drew BK142.out)
  have n2_ := Aside0.mk (below_drew1 HB.out)
  clear BK141
  clear BK142
  clear HB
  have BK141 := n0_
  have BK142 := n1_
  have HB := n2_
  clear n0_ n1_ n2_
  have p143 : 0 ≤ (x5_2 : Int) := of_decide_eq_true (by (with_reducible assumption))
  have q143 : x5_2 < (l0_3.length : Int) := of_decide_eq_true (by (with_reducible assumption))
  obtain ⟨ad143, A143_3, c143_3, e143, hx143_0, hx143_1, hx143_2, hx143_3, hx143_4, hx143_5, hl143_3, hi143_3⟩ := at_T25 HR0_3.out x5_2 p143 q143
  have hw143_5 := hx143_5
  have hw143_4 := hx143_4
  have hw143_3 := hx143_3
  have hw143_2 := hx143_2
  have hw143_1 := hx143_1
  have hw143_0 := hx143_0
  cases e143
  replace hx143_0 := pw_cell_below HB.out hx143_0
  replace hx143_1 := pw_cell_below HB.out hx143_1
  replace hx143_2 := pw_cell_below HB.out hx143_2
  replace hx143_3 := pw_cell_below HB.out hx143_3
  replace hx143_4 := pw_cell_below HB.out hx143_4
  replace hx143_5 := pw_cell_below HB.out hx143_5
  have HR143_3 := Aside0.mk hi143_3
  have HC143_3 := Aside0.mk hl143_3
  clear hi143_3 hl143_3
  replace p143 := eq_true p143
  replace q143 := eq_true q143
  have p144 : 0 ≤ (x5_2 : Int) := of_decide_eq_true (by (with_reducible assumption))
  have q144 : x5_2 < (l1_3.length : Int) := of_decide_eq_true (by (with_reducible assumption))
  obtain ⟨ad144, A144_3, c144_3, e144, hx144_0, hx144_1, hx144_2, hx144_3, hx144_4, hx144_5, hl144_3, hi144_3⟩ := at_T25 HR1_3.out x5_2 p144 q144
  have hw144_5 := hx144_5
  have hw144_4 := hx144_4
  have hw144_3 := hx144_3
  have hw144_2 := hx144_2
  have hw144_1 := hx144_1
  have hw144_0 := hx144_0
  cases e144
  replace hx144_0 := pw_cell_below HB.out hx144_0
  replace hx144_1 := pw_cell_below HB.out hx144_1
  replace hx144_2 := pw_cell_below HB.out hx144_2
  replace hx144_3 := pw_cell_below HB.out hx144_3
  replace hx144_4 := pw_cell_below HB.out hx144_4
  replace hx144_5 := pw_cell_below HB.out hx144_5
  have HR144_3 := Aside0.mk hi144_3
  have HC144_3 := Aside0.mk hl144_3
  clear hi144_3 hl144_3
  replace p144 := eq_true p144
  replace q144 := eq_true q144
  refine start_ (n := 12) (S := fun w' => w'.cell? ⟨gb141, 0, none⟩ = some (.int .i64 a0_0) ∧ w'.cell? ⟨gb141, 1, none⟩ = some (.int .i64 a0_1) ∧ w'.cell? ⟨gb141, 2, none⟩ = some (.string a0_2) ∧ w'.cell? ⟨gb141, 3, none⟩ = some (.slice (some ad143) l0_3.length c0_3) ∧ w'.cell? ⟨gb141, 4, none⟩ = some (.int .i64 a0_4) ∧ w'.cell? ⟨gb141, 5, none⟩ = some (.int .i64 a0_5) ∧ w'.cell? ⟨gb142, 0, none⟩ = some (.int .i64 a1_0) ∧ w'.cell? ⟨gb142, 1, none⟩ = some (.int .i64 a1_1) ∧ w'.cell? ⟨gb142, 2, none⟩ = some (.string a1_2) ∧ w'.cell? ⟨gb142, 3, none⟩ = some (.slice (some ad144) l1_3.length c1_3) ∧ w'.cell? ⟨gb142, 4, none⟩ = some (.int .i64 a1_4) ∧ w'.cell? ⟨gb142, 5, none⟩ = some (.int .i64 a1_5) ∧ w'.cell? (ad143.add ((x5_2).toNat * 6)) = some (.int .i64 ((rd_T25 l0_3 x5_2).f0)) ∧ w'.cell? ⟨(ad143.add ((x5_2).toNat * 6)).block, (ad143.add ((x5_2).toNat * 6)).off + 1, none⟩ = some (.int .i64 ((rd_T25 l0_3 x5_2).f1)) ∧ w'.cell? ⟨(ad143.add ((x5_2).toNat * 6)).block, (ad143.add ((x5_2).toNat * 6)).off + 2, none⟩ = some (.string ((rd_T25 l0_3 x5_2).f2)) ∧ w'.cell? ⟨(ad143.add ((x5_2).toNat * 6)).block, (ad143.add ((x5_2).toNat * 6)).off + 3, none⟩ = some (.slice A143_3 ((rd_T25 l0_3 x5_2).f3).length c143_3) ∧ w'.cell? ⟨(ad143.add ((x5_2).toNat * 6)).block, (ad143.add ((x5_2).toNat * 6)).off + 4, none⟩ = some (.int .i64 ((rd_T25 l0_3 x5_2).f4)) ∧ w'.cell? ⟨(ad143.add ((x5_2).toNat * 6)).block, (ad143.add ((x5_2).toNat * 6)).off + 5, none⟩ = some (.int .i64 ((rd_T25 l0_3 x5_2).f5)) ∧ w'.cell? (ad144.add ((x5_2).toNat * 6)) = some (.int .i64 ((rd_T25 l1_3 x5_2).f0)) ∧ w'.cell? ⟨(ad144.add ((x5_2).toNat * 6)).block, (ad144.add ((x5_2).toNat * 6)).off + 1, none⟩ = some (.int .i64 ((rd_T25 l1_3 x5_2).f1)) ∧ w'.cell? ⟨(ad144.add ((x5_2).toNat * 6)).block, (ad144.add ((x5_2).toNat * 6)).off + 2, none⟩ = some (.string ((rd_T25 l1_3 x5_2).f2)) ∧ w'.cell? ⟨(ad144.add ((x5_2).toNat * 6)).block, (ad144.add ((x5_2).toNat * 6)).off + 3, none⟩ = some (.slice A144_3 ((rd_T25 l1_3 x5_2).f3).length c144_3) ∧ w'.cell? ⟨(ad144.add ((x5_2).toNat * 6)).block, (ad144.add ((x5_2).toNat * 6)).off + 4, none⟩ = some (.int .i64 ((rd_T25 l1_3 x5_2).f4)) ∧ w'.cell? ⟨(ad144.add ((x5_2).toNat * 6)).block, (ad144.add ((x5_2).toNat * 6)).off + 5, none⟩ = some (.int .i64 ((rd_T25 l1_3 x5_2).f5))) (ds := []) (bl 12 0) (by kernel_rfl) rfl rfl ⟨(blk_cell BK141.out 0).trans rfl, (blk_cell BK141.out 1).trans rfl, (blk_cell BK141.out 2).trans rfl, (blk_cell BK141.out 3).trans rfl, (blk_cell BK141.out 4).trans rfl, (blk_cell BK141.out 5).trans rfl, (blk_cell BK142.out 0).trans rfl, (blk_cell BK142.out 1).trans rfl, (blk_cell BK142.out 2).trans rfl, (blk_cell BK142.out 3).trans rfl, (blk_cell BK142.out 4).trans rfl, (blk_cell BK142.out 5).trans rfl, (pw_cell_below HB.out hw143_0), (pw_cell_below HB.out hw143_1), (pw_cell_below HB.out hw143_2), (pw_cell_below HB.out hw143_3), (pw_cell_below HB.out hw143_4), (pw_cell_below HB.out hw143_5), (pw_cell_below HB.out hw144_0), (pw_cell_below HB.out hw144_1), (pw_cell_below HB.out hw144_2), (pw_cell_below HB.out hw144_3), (pw_cell_below HB.out hw144_4), (pw_cell_below HB.out hw144_5)⟩ (fun hHeld => ?_); refine with_tabW notaryref06_Same.tab6 notaryref06_Same.bits6 (fun HT_ HW_ => ?_)
  generalize wr.drew = w29 at BK141 BK142 HB HR143_3 HR144_3 hx143_0 hx143_1 hx143_2 hx143_3 hx143_4 hx143_5 hx144_0 hx144_1 hx144_2 hx144_3 hx144_4 hx144_5 hHeld ⊢
  refine pure_ (i := 0) (N := some 41) (v := ?_) (a' := ?_) (bl 12 1) rfl rfl (any_of HT_.out (by kernel_rfl)) (fun _ _ _ h => h) (Or.inl ⟨by rfl, ?_⟩) ?_ ?_
  rotate_left
  · intro w'; go_simp; with_reducible rfl
  rotate_left
  · simp only [Act.put, sa_, sz_, ss_, i64_w, i32_w]; rfl
  refine pure_ (i := 2) (N := some 43) (v := ?_) (a' := ?_) (bl 12 5) rfl rfl (any_of HT_.out (by kernel_rfl)) (fun _ _ _ h => h) (Or.inl ⟨by rfl, ?_⟩) ?_ ?_
  rotate_left
  · intro w'; go_simp; with_reducible rfl
  rotate_left
  · simp only [Act.put, sa_, sz_, ss_, i64_w, i32_w]; rfl
  refine pure_ (i := 5) (N := some 46) (v := ?_) (a' := ?_) (bl 12 37) rfl rfl (any_of HT_.out (by kernel_rfl)) (fun _ _ _ h => h) (Or.inl ⟨by rfl, ?_⟩) ?_ ?_
  rotate_left
  · intro w'; go_simp; with_reducible rfl
  rotate_left
  · simp only [Act.put, sa_, sz_, ss_, i64_w, i32_w]; rfl
  refine pure_ (i := 7) (N := some 48) (v := ?_) (a' := ?_) (bl 12 165) rfl rfl (any_of HT_.out (by kernel_rfl)) (fun _ _ _ h => h) (Or.inl ⟨by rfl, ?_⟩) ?_ ?_
  rotate_left
  · intro w'; go_simp; with_reducible rfl
  rotate_left
  · simp only [Act.put, sa_, sz_, ss_, i64_w, i32_w]; rfl
  refine take_ (i := 1) (N := some 42) (v := ?_) (a' := ?_) (bl 12 167) rfl rfl (take_ofW HT_.out HW_.out (by kernel_rfl)) (fun _ _ _ h => h) (Or.inl ⟨by rfl, ?_⟩) hHeld ?_ ?_
  rotate_left
  · rintro w' ⟨s0, s1, s2, s3, s4, s5, s6, s7, s8, s9, s10, s11, s12, s13, s14, s15, s16, s17, s18, s19, s20, s21, s22, s23⟩
    go_simp
    with_reducible rfl
  rotate_left
  · simp only [Act.put, sa_, sz_, ss_, i64_w, i32_w]; rfl
  refine pure_ (i := 3) (N := some 44) (v := ?_) (a' := ?_) (bl 12 175) rfl rfl (any_of HT_.out (by kernel_rfl)) (fun _ _ _ h => h) (Or.inl ⟨by rfl, ?_⟩) ?_ ?_
  rotate_left
  · intro w'; go_simp; with_reducible rfl
  rotate_left
  · simp only [Act.put, sa_, sz_, ss_, i64_w, i32_w]; rfl
  refine take_ (i := 4) (N := some 45) (v := ?_) (a' := ?_) (bl 12 191) rfl rfl (take_ofW HT_.out HW_.out (by kernel_rfl)) (fun _ _ _ h => h) (Or.inl ⟨by rfl, ?_⟩) hHeld ?_ ?_
  rotate_left
  · rintro w' ⟨s0, s1, s2, s3, s4, s5, s6, s7, s8, s9, s10, s11, s12, s13, s14, s15, s16, s17, s18, s19, s20, s21, s22, s23⟩
    go_simp
    with_reducible rfl
  rotate_left
  · simp only [Act.put, sa_, sz_, ss_, i64_w, i32_w]; rfl
  refine take_ (i := 6) (N := some 47) (v := ?_) (a' := ?_) (bl 12 255) rfl rfl (take_ofW HT_.out HW_.out (by kernel_rfl)) (fun _ _ _ h => h) (Or.inl ⟨by rfl, ?_⟩) hHeld ?_ ?_
  rotate_left
  · rintro w' ⟨s0, s1, s2, s3, s4, s5, s6, s7, s8, s9, s10, s11, s12, s13, s14, s15, s16, s17, s18, s19, s20, s21, s22, s23⟩
    go_simp
    with_reducible rfl
  rotate_left
  · simp only [Act.put, sa_, sz_, ss_, i64_w, i32_w]; rfl
  refine pure_ (i := 8) (N := some 49) (v := ?_) (a' := ?_) (bl 12 511) rfl rfl (any_of HT_.out (by kernel_rfl)) (fun _ _ _ h => h) (Or.inl ⟨by rfl, ?_⟩) ?_ ?_
  rotate_left
  · intro w'; go_simp; with_reducible rfl
  rotate_left
  · simp only [Act.put, sa_, sz_, ss_, i64_w, i32_w]; rfl
  refine take_ (i := 9) (N := some 50) (v := ?_) (a' := ?_) (bl 12 1023) rfl rfl (take_ofW HT_.out HW_.out (by kernel_rfl)) (fun _ _ _ h => h) (Or.inl ⟨by rfl, ?_⟩) hHeld ?_ ?_
  rotate_left
  · rintro w' ⟨s0, s1, s2, s3, s4, s5, s6, s7, s8, s9, s10, s11, s12, s13, s14, s15, s16, s17, s18, s19, s20, s21, s22, s23⟩
    go_simp
    with_reducible rfl
  rotate_left
  · simp only [Act.put, sa_, sz_, ss_, i64_w, i32_w]; rfl
  refine one_ (i := 10) (N := some 51) (bl 12 2047) rfl rfl (one_of HT_.out (by kernel_rfl)) (by decide) (fun K hK => ?_)
  refine goes_ Try.func83 (by kernel_rfl) rfl #[.agg #[.int .i64 ((rd_T25 l0_3 x5_2).f0), .int .i64 ((rd_T25 l0_3 x5_2).f1), .string ((rd_T25 l0_3 x5_2).f2), .slice A143_3 ((rd_T25 l0_3 x5_2).f3).length c143_3, .int .i64 ((rd_T25 l0_3 x5_2).f4), .int .i64 ((rd_T25 l0_3 x5_2).f5)], .agg #[.int .i64 ((rd_T25 l1_3 x5_2).f0), .int .i64 ((rd_T25 l1_3 x5_2).f1), .string ((rd_T25 l1_3 x5_2).f2), .slice A144_3 ((rd_T25 l1_3 x5_2).f3).length c144_3, .int .i64 ((rd_T25 l1_3 x5_2).f4), .int .i64 ((rd_T25 l1_3 x5_2).f5)]] (by rfl) rfl rfl (by (try simp only [List.map_toArray, List.map_cons, List.map_nil]); (rfl)) ?_
  with_reducible refine (ih k2 (by have := HJ2.out; have := HK2.out; omega) ((rd_T25 l0_3 x5_2).f0) ((rd_T25 l0_3 x5_2).f1) ((rd_T25 l0_3 x5_2).f2) _ _ ((rd_T25 l0_3 x5_2).f3) ((rd_T25 l0_3 x5_2).f4) ((rd_T25 l0_3 x5_2).f5) ((rd_T25 l1_3 x5_2).f0) ((rd_T25 l1_3 x5_2).f1) ((rd_T25 l1_3 x5_2).f2) _ _ ((rd_T25 l1_3 x5_2).f3) ((rd_T25 l1_3 x5_2).f4) ((rd_T25 l1_3 x5_2).f5) true _ ?side1 ?side2 ?side3 ?side4 A25.out).mono ?_
  (case side1 => exact Kd.C_below HR143_3.out HB.out)
  (case side2 => exact HC143_3.out)
  (case side3 => exact Kd.C_below HR144_3.out HB.out)
  (case side4 => exact HC144_3.out)
  rintro e w30 ⟨rfl, hb⟩
  refine ⟨_, rfl, ?_⟩
  have n0_ := Aside0.mk (blk_below (g := gb141) (o := .cells #[.int .i64 a0_0, .int .i64 a0_1, .string a0_2, .slice (some ad143) l0_3.length c0_3, .int .i64 a0_4, .int .i64 a0_5] 25 (0, 0)) (by exact BK141.out) hb)
  have n1_ := Aside0.mk (blk_below (g := gb142) (o := .cells #[.int .i64 a1_0, .int .i64 a1_1, .string a1_2, .slice (some ad144) l1_3.length c1_3, .int .i64 a1_4, .int .i64 a1_5] 25 (0, 0)) (by exact BK142.out) hb)
  have n2_ := Aside0.mk (below_step HB.out hb)
  clear BK141
  clear BK142
  clear HB
  have BK141 := n0_
  have BK142 := n1_
  have HB := n2_
  clear n0_ n1_ n2_
  (try clear hb)
  (skip)
  (skip)
  (skip)
  refine hK.out _ _ ⟨(blk_cell BK141.out 0).trans rfl, (blk_cell BK141.out 1).trans rfl, (blk_cell BK141.out 2).trans rfl, (blk_cell BK141.out 3).trans rfl, (blk_cell BK141.out 4).trans rfl, (blk_cell BK141.out 5).trans rfl, (blk_cell BK142.out 0).trans rfl, (blk_cell BK142.out 1).trans rfl, (blk_cell BK142.out 2).trans rfl, (blk_cell BK142.out 3).trans rfl, (blk_cell BK142.out 4).trans rfl, (blk_cell BK142.out 5).trans rfl, (pw_cell_below HB.out hw143_0), (pw_cell_below HB.out hw143_1), (pw_cell_below HB.out hw143_2), (pw_cell_below HB.out hw143_3), (pw_cell_below HB.out hw143_4), (pw_cell_below HB.out hw143_5), (pw_cell_below HB.out hw144_0), (pw_cell_below HB.out hw144_1), (pw_cell_below HB.out hw144_2), (pw_cell_below HB.out hw144_3), (pw_cell_below HB.out hw144_4), (pw_cell_below HB.out hw144_5)⟩ (fun hHeld => ?_)
  clear hK K
  refine norm_ (a' := ?_) ?_ ?_
  rotate_left
  · show Act.put _ (some 51) _ = _
    simp only [Act.put, sa_, sz_, ss_, i64_w, i32_w]
    rfl
  refine pure_ (i := 11) (N := some 52) (v := ?_) (a' := ?_) (bl 12 4095) rfl rfl (any_of HT_.out (by kernel_rfl)) (fun _ _ _ h => h) (Or.inl ⟨by rfl, ?_⟩) ?_ ?_
  rotate_left
  · intro w'; go_simp; with_reducible rfl
  rotate_left
  · simp only [Act.put, sa_, sz_, ss_, i64_w, i32_w]; rfl
  refine done_ (done_of HT_.out (by kernel_rfl)) ?_
  try go_wp2
  go_roundg k2
  case measure => have := HJ2.out; have := HK2.out; omega
  case rel => exact ⟨(wrap64 (x5_2 + 1)), (by (rfl)), H', ⟨by have := HJ2.out; have := HK2.out; omega⟩, ⟨by exact BK141.out⟩, ⟨by exact BK142.out⟩, ⟨HB.out⟩⟩
end Go.Proofs.Ytiamcmjdoobaeaa.PCe
