-- SLIM: a printed text of which the unused ways are cut off
-- PRINTED by print.py (a twelfth state) out of the translation. Not trusted: Lean checks it.
import Derived.Test.YtiamcmjdoobaeaaPCdx0
import Derived.Test.YtiamcmjdoobaeaaPCdx8
import Derived.Test.YtiamcmjdoobaeaaPCdx10
namespace Go.Proofs.Ytiamcmjdoobaeaa.PCd
open Go.RowKit Go.Proofs.YtiamcmjdoobaeaaW.PrintWords Go.Proofs.YtiamcmjdoobaeaaW.PrintLast Go.Proofs.YtiamcmjdoobaeaaW.PrintMore
attribute [local go_sem] max2_int min2_int max_two min_two max_three min_three max_four min_four   -- for this text's walks alone
set_option linter.unusedVariables false
set_option linter.unusedSimpArgs false

/-! ### notaryref36_Term: function 11 -/
mutual
def notaryref36_Term.j0 : Nat → Int → Bool → Int → Int → ByteArray → List (S25) → Int → Int → Option (List Int × Int)
  | 0, _, _, _, _, _, _, _, _ => none
  | k + 1, x1, x20, x168000, x168001, x168002, x168003, x168004, x168005 => if x20 = true then (some (([] : List Int), 23)) else (if x168002.toList = ([] : List UInt8) then (if x168004 = 0 then (notaryref36_Term.j1 k x1 (x168005 != 0) x168000 x168001 x168002 x168003 x168004 x168005) else (notaryref36_Term.j1 k x1 true x168000 x168001 x168002 x168003 x168004 x168005)) else (notaryref36_Term.j1 k x1 true x168000 x168001 x168002 x168003 x168004 x168005))
def notaryref36_Term.j1 : Nat → Int → Bool → Int → Int → ByteArray → List (S25) → Int → Int → Option (List Int × Int)
  | 0, _, _, _, _, _, _, _, _ => none
  | k + 1, x1, x34, x168000, x168001, x168002, x168003, x168004, x168005 => if x34 = true then (some (([] : List Int), 2)) else ((some (([(x168000) % 256] : List Int) : List Int)).bind fun y177 => ((notaryref01_Zig.f x168001).bind fun t180 => ((notaryref01_Bytes.f k t180).bind fun t181 => (if y177.length + t181.length < 140737488355328 then ((some (y177 ++ t181 : List Int)).bind fun y184 => ((notaryref01_Bytes.f k (IntKind.u64.wrap (x168003.length : Int))).bind fun t187 => (if y184.length + t187.length < 140737488355328 then (notaryref36_Term.l0 k x1 (y184 ++ t187) 0 x168000 x168001 x168002 x168003 x168004 x168005) else (none)))) else (none)))))
def notaryref36_Term.l0 : Nat → Int → List Int → Int → Int → Int → ByteArray → List (S25) → Int → Int → Option (List Int × Int)
  | 0, _, _, _, _, _, _, _, _, _ => none
  | k + 1, x1, x6, x7, x168000, x168001, x168002, x168003, x168004, x168005 => if x7 < (x168003.length : Int) then (if 0 ≤ x7 then ((notaryref36_Term.f k ((rd_T25 x168003 x7).f0) ((rd_T25 x168003 x7).f1) ((rd_T25 x168003 x7).f2) ((rd_T25 x168003 x7).f3) ((rd_T25 x168003 x7).f4) ((rd_T25 x168003 x7).f5) (wrap64 (x1 + 1))).bind fun bt194 => (if bt194.2 = 0 then (if x6.length + bt194.1.length < 140737488355328 then (notaryref36_Term.l0 k x1 (x6 ++ bt194.1) (wrap64 (x7 + 1)) x168000 x168001 x168002 x168003 x168004 x168005) else (none)) else (some (([] : List Int), bt194.2)))) else (none)) else (some (x6, 0))
def notaryref36_Term.f : Nat → Int → Int → ByteArray → List (S25) → Int → Int → Int → Option (List Int × Int)
  | 0, _, _, _, _, _, _, _ => none
  | k + 1, a0_0, a0_1, a0_2, l0_3, a0_4, a0_5, a1 => if a1 > 64 then (some (([] : List Int), 7)) else (if a0_0 < 1 then (notaryref36_Term.j0 k a1 true a0_0 a0_1 a0_2 l0_3 a0_4 a0_5) else (notaryref36_Term.j0 k a1 (decide (a0_0 > 36)) a0_0 a0_1 a0_2 l0_3 a0_4 a0_5))
end
def notaryref36_Term.T7 : Bool × List (List Nat × List Nat) := (true, [([], []), ([0], [0]), ([1], [1]), ([2], [2]), ([], []), ([4], [4]), ([5], [5]), ([6, 6], [6]), ([3, 7, 7], [3, 7]), ([8, 8, 0, 1, 2, 3, 4, 5, 6, 7, 8], [8])])
def notaryref36_Term.B7 : List Nat := [0, 1, 3, 7, 0, 16, 48, 112, 255, 511]
theorem notaryref36_Term.tab7 : rtab .any (opsOf Try.f11 7) = notaryref36_Term.T7 := by kernel_rfl
theorem notaryref36_Term.bits7 : waitsOk notaryref36_Term.T7.2 notaryref36_Term.B7 = true := by kernel_rfl
set_option maxHeartbeats 8000000 in
set_option maxRecDepth 100000 in
theorem notaryref36_Term.calls (k : Nat) : ∀ (a0_0 : Int) (a0_1 : Int) (a0_2 : ByteArray) (A0_3 : Option Addr) (c0_3 : Nat) (l0_3 : List (S25)) (a0_4 : Int) (a0_5 : Int) (a1 : Int) (r1 : List Int) (r2 : Int) (w : World) (hr0_3 : Kd.C k25 w A0_3 l0_3.length l0_3) (hc0_3 : l0_3.length ≤ c0_3) (h : notaryref36_Term.f k a0_0 a0_1 a0_2 l0_3 a0_4 a0_5 a1 = some (r1, r2)),
    Calls Try.prog 11 #[.agg #[.int .i64 a0_0, .int .i64 a0_1, .string a0_2, .slice A0_3 l0_3.length c0_3, .int .i64 a0_4, .int .i64 a0_5], .int .i64 a1] w fun e w' => ∃ v0_ : Value, e = .returned (.tuple #[v0_, .int .i64 r2]) ∧ Kd.R (Kd.int .u8) 5 w' w.heap.size (fun _ => True) v0_ r1 ∧ Below w.heap.size w w' := by
  induction k using Nat.strongRecOn with
  | _ k ih =>
  intro a0_0 a0_1 a0_2 A0_3 c0_3 l0_3 a0_4 a0_5 a1 r1 r2 w hr0_3 hc0_3 h
  cases k with
  | zero => exact absurd h (by simp [notaryref36_Term.f])
  | succ k =>
  simp only [notaryref36_Term.f] at h
  have hu25 := Try.underlying25
  have HR0_3 := Aside0.mk hr0_3
  have HC0_3 := Aside0.mk hc0_3
  clear hr0_3 hc0_3
  have HB := Aside0.mk (Below.refl w.heap.size w)
  have H : (if a1 > 64 then (some (([] : List Int), 7)) else (if a0_0 < 1 then (notaryref36_Term.j0 k a1 true a0_0 a0_1 a0_2 l0_3 a0_4 a0_5) else (notaryref36_Term.j0 k a1 (decide (a0_0 > 36)) a0_0 a0_1 a0_2 l0_3 a0_4 a0_5))) = some (r1, r2) := h
  clear h
  by_cases c3 : a1 > 64
  · rw [if_pos c3] at H
    have c3b0 : decide (64 < a1) = true := decide_eq_true c3
    clear c3
    obtain ⟨y168, hy168⟩ : ∃ y_ : List Int, y_ = ([] : List Int) := ⟨_, rfl⟩
    replace H : (some (y168, 7)) = some (r1, r2) := by (rw [hy168]; with_reducible exact H)
    have Ny168 := Aside0.mk hy168
    clear hy168
    simp only [Option.some.injEq, Prod.mk.injEq] at H
    obtain ⟨rfl, rfl⟩ := H
    go_enter Try.func11, Try.ntmps11
    go_wp2_with (first | ((with_reducible refine gate_dst (N := 2) rfl ?_); refine box_event ?hg (N := 2) ?hd (cs := #[.int .i64 a0_0, .int .i64 a0_1, .string a0_2, .slice A0_3 l0_3.length c0_3, .int .i64 a0_4, .int .i64 a0_5]) (t := 25) ?hr ?_; (case hd => rfl); (case hg => rfl); (case hr => (go_simp; done)); intro gb167 hg w4 hbox hb; have n0_ := Aside0.mk (below_step HB.out hb); have n1_ := Aside0.mk (hbox); have n2_ := Aside0.mk ((by rw [hg]; exact (below_size HB.out) : w.heap.size ≤ gb167)); have n3_ := Aside0.mk ((by rw [hg]; exact (below_size HB.out) : w.heap.size ≤ gb167)); clear HB; have HB := n0_; have BK167 := n1_; have GW167 := n2_; have GE167 := n3_; clear n0_ n1_ n2_ n3_; clear hb hbox hg) | ((with_reducible refine gate_dst (N := 12) rfl ?_); refine Kd.R_lit (Kd.int .u8) _ 5 ?hg (N := 12) ?hd (xs := ([] : List Int)) (inner := []) (ok := fun _ => True) (okp := fun _ => True) ?hr ?hp (fun _ hk => hk) trivial (Below.refl _ _) (Nat.le_refl _) (by simp) ?_; (case hd => rfl); (case hg => rfl); (case hr => (go_simp; done)); (case hp => exact (Reps.none _ _)); intro v169 w5 ho6 hb hg_ hnew_; clear hg_ hnew_; (rw [← Ny168.out] at ho6); have n0_ := Aside0.mk (Kd.R_lower ho6 (below_size HB.out)); have n1_ := Aside0.mk (blk_below (g := gb167) (o := .cells #[.int .i64 a0_0, .int .i64 a0_1, .string a0_2, .slice A0_3 l0_3.length c0_3, .int .i64 a0_4, .int .i64 a0_5] 25 (0, 0)) (by exact BK167.out) hb); have n2_ := Aside0.mk (below_step HB.out hb); clear BK167; clear HB; have HO170 := n0_; have BK167 := n1_; have HB := n2_; clear n0_ n1_ n2_; clear hb ho6))
    go_ret2
    exact ⟨_, by (rfl), by exact HO170.out, HB.out⟩
  rw [if_neg c3] at H
  have c3b0 : decide (64 < a1) = false := decide_eq_false c3
  clear c3
  have HC7 := Aside0.mk H
  clear H
  go_enter Try.func11, Try.ntmps11
  go_upto_region 3 with ((((with_reducible refine gate_dst (N := 2) rfl ?_); refine box_event ?hg (N := 2) ?hd (cs := #[.int .i64 a0_0, .int .i64 a0_1, .string a0_2, .slice A0_3 l0_3.length c0_3, .int .i64 a0_4, .int .i64 a0_5]) (t := 25) ?hr ?_; (case hd => rfl); (case hg => rfl); (case hr => (go_simp; done)); intro gb167 hg w8 hbox hb; have n0_ := Aside0.mk (below_step HB.out hb); have n1_ := Aside0.mk (hbox); have n2_ := Aside0.mk ((by rw [hg]; exact (below_size HB.out) : w.heap.size ≤ gb167)); have n3_ := Aside0.mk ((by rw [hg]; exact (below_size HB.out) : w.heap.size ≤ gb167)); clear HB; have HB := n0_; have BK167 := n1_; have GW167 := n2_; have GE167 := n3_; clear n0_ n1_ n2_ n3_; clear hb hbox hg)))
  (skip)
  go_cut [20] (fun v20 wc => ∃ (kq : Nat) (x20_6 : Bool), v20 = .bool x20_6 ∧ Aside0 (notaryref36_Term.j0 kq a1 x20_6 a0_0 a0_1 a0_2 l0_3 a0_4 a0_5 = some (r1, r2)) ∧ Aside0 (kq ≤ k) ∧ Aside0 (wc.heap[gb167]? = some (.cells #[.int .i64 a0_0, .int .i64 a0_1, .string a0_2, (.slice A0_3 l0_3.length c0_3), .int .i64 a0_4, .int .i64 a0_5] 25 (0, 0))) ∧ Aside0 (Below w.heap.size w wc))
  case first =>
    have H := HC7.out
    clear HC7
    by_cases c9 : a0_0 < 1
    · rw [if_pos c9] at H
      have c9b0 : decide (a0_0 < 1) = true := decide_eq_true c9
      clear c9
      (skip)
      have H' := Aside0.mk H
      clear H
      have hcz10_0 : w8.cell? ⟨gb167, 0, none⟩ = some (.int .i64 a0_0) := (blk_cell BK167.out 0).trans rfl
      have hcz10_1 : w8.cell? ⟨gb167, 1, none⟩ = some (.int .i64 a0_1) := (blk_cell BK167.out 1).trans rfl
      have hcz10_2 : w8.cell? ⟨gb167, 2, none⟩ = some (.string a0_2) := (blk_cell BK167.out 2).trans rfl
      have hcz10_3 : w8.cell? ⟨gb167, 3, none⟩ = some (.slice A0_3 l0_3.length c0_3) := (blk_cell BK167.out 3).trans rfl
      have hcz10_4 : w8.cell? ⟨gb167, 4, none⟩ = some (.int .i64 a0_4) := (blk_cell BK167.out 4).trans rfl
      have hcz10_5 : w8.cell? ⟨gb167, 5, none⟩ = some (.int .i64 a0_5) := (blk_cell BK167.out 5).trans rfl
      have hfz10_0 := blk_frozen BK167.out 0
      have hfz10_1 := blk_frozen BK167.out 1
      have hfz10_2 := blk_frozen BK167.out 2
      have hfz10_3 := blk_frozen BK167.out 3
      have hfz10_4 := blk_frozen BK167.out 4
      have hfz10_5 := blk_frozen BK167.out 5
      go_wp2
      go_meet
      case rel => exact ⟨_, (true), (by (rfl)), H', ⟨by (omega)⟩, ⟨by exact BK167.out⟩, ⟨HB.out⟩⟩
    rw [if_neg c9] at H
    have c9b0 : decide (a0_0 < 1) = false := decide_eq_false c9
    clear c9
    (skip)
    have H' := Aside0.mk H
    clear H
    have hcz11_0 : w8.cell? ⟨gb167, 0, none⟩ = some (.int .i64 a0_0) := (blk_cell BK167.out 0).trans rfl
    have hcz11_1 : w8.cell? ⟨gb167, 1, none⟩ = some (.int .i64 a0_1) := (blk_cell BK167.out 1).trans rfl
    have hcz11_2 : w8.cell? ⟨gb167, 2, none⟩ = some (.string a0_2) := (blk_cell BK167.out 2).trans rfl
    have hcz11_3 : w8.cell? ⟨gb167, 3, none⟩ = some (.slice A0_3 l0_3.length c0_3) := (blk_cell BK167.out 3).trans rfl
    have hcz11_4 : w8.cell? ⟨gb167, 4, none⟩ = some (.int .i64 a0_4) := (blk_cell BK167.out 4).trans rfl
    have hcz11_5 : w8.cell? ⟨gb167, 5, none⟩ = some (.int .i64 a0_5) := (blk_cell BK167.out 5).trans rfl
    have hfz11_0 := blk_frozen BK167.out 0
    have hfz11_1 := blk_frozen BK167.out 1
    have hfz11_2 := blk_frozen BK167.out 2
    have hfz11_3 := blk_frozen BK167.out 3
    have hfz11_4 := blk_frozen BK167.out 4
    have hfz11_5 := blk_frozen BK167.out 5
    go_wp2
    go_meet
    case rel => exact ⟨_, (decide (a0_0 > 36)), (by (rfl)), H', ⟨by (omega)⟩, ⟨by exact BK167.out⟩, ⟨HB.out⟩⟩
  clear HC7
  try clear c3b0
  obtain ⟨kq, x20_6, rfl, HA, HJ6, BK167, HB⟩ := hcut
  rcases kq with _ | kj6
  · exact absurd HA.out (by simp [notaryref36_Term.j0])
  have H := HA.out
  clear HA
  simp only [notaryref36_Term.j0] at H
  by_cases c12 : x20_6 = true
  · subst c12
    have H1 : (some (([] : List Int), 23)) = some (r1, r2) := by rw [if_pos rfl] at H; exact H
    clear H
    have H := H1
    clear H1
    obtain ⟨y171, hy171⟩ : ∃ y_ : List Int, y_ = ([] : List Int) := ⟨_, rfl⟩
    replace H : (some (y171, 23)) = some (r1, r2) := by (rw [hy171]; with_reducible exact H)
    have Ny171 := Aside0.mk hy171
    clear hy171
    simp only [Option.some.injEq, Prod.mk.injEq] at H
    obtain ⟨rfl, rfl⟩ := H
    go_wp2_with ((((with_reducible refine gate_dst (N := 21) rfl ?_); refine Kd.R_lit (Kd.int .u8) _ 5 ?hg (N := 21) ?hd (xs := ([] : List Int)) (inner := []) (ok := fun _ => True) (okp := fun _ => True) ?hr ?hp (fun _ hk => hk) trivial (Below.refl _ _) (Nat.le_refl _) (by simp) ?_; (case hd => rfl); (case hg => rfl); (case hr => (go_simp; done)); (case hp => exact (Reps.none _ _)); intro v172 w13 ho14 hb hg_ hnew_; clear hg_ hnew_; (rw [← Ny171.out] at ho14); have n0_ := Aside0.mk (Kd.R_lower ho14 (below_size HB.out)); have n1_ := Aside0.mk (blk_below (g := gb167) (o := .cells #[.int .i64 a0_0, .int .i64 a0_1, .string a0_2, .slice A0_3 l0_3.length c0_3, .int .i64 a0_4, .int .i64 a0_5] 25 (0, 0)) (by exact BK167.out) hb); have n2_ := Aside0.mk (below_step HB.out hb); clear BK167; clear HB; have HO173 := n0_; have BK167 := n1_; have HB := n2_; clear n0_ n1_ n2_; clear hb ho14)))
    go_ret2
    exact ⟨_, by (rfl), by exact HO173.out, HB.out⟩
  replace c12 := Bool.eq_false_iff.mpr c12
  subst c12
  have H1 : (if a0_2.toList = ([] : List UInt8) then (if a0_4 = 0 then (notaryref36_Term.j1 kj6 a1 (a0_5 != 0) a0_0 a0_1 a0_2 l0_3 a0_4 a0_5) else (notaryref36_Term.j1 kj6 a1 true a0_0 a0_1 a0_2 l0_3 a0_4 a0_5)) else (notaryref36_Term.j1 kj6 a1 true a0_0 a0_1 a0_2 l0_3 a0_4 a0_5)) = some (r1, r2) := by rw [if_neg (show ¬ (false = true) by decide)] at H; exact H
  clear H
  have H := H1
  clear H1
  have HC15 := Aside0.mk H
  clear H
  go_upto_region 5 with (fail)
  go_cut [34] (fun v34 wc => ∃ (kq : Nat) (x34_14 : Bool), v34 = .bool x34_14 ∧ Aside0 (notaryref36_Term.j1 kq a1 x34_14 a0_0 a0_1 a0_2 l0_3 a0_4 a0_5 = some (r1, r2)) ∧ Aside0 (kq ≤ kj6) ∧ Aside0 (wc.heap[gb167]? = some (.cells #[.int .i64 a0_0, .int .i64 a0_1, .string a0_2, (.slice A0_3 l0_3.length c0_3), .int .i64 a0_4, .int .i64 a0_5] 25 (0, 0))) ∧ Aside0 (Below w.heap.size w wc))
  case first =>
    have H := HC15.out
    clear HC15
    by_cases c16 : a0_2.toList = ([] : List UInt8)
    rotate_left
    · rw [if_neg c16] at H
      have c16b0 : (a0_2.toList == ([] : List UInt8)) = false := beq_eq_false_iff_ne.mpr c16
      have c16b1 : (a0_2.toList != ([] : List UInt8)) = true := bne_iff_ne.mpr c16
      (skip)
      have H' := Aside0.mk H
      clear H
      have hcz20_0 : wc.cell? ⟨gb167, 0, none⟩ = some (.int .i64 a0_0) := (blk_cell BK167.out 0).trans rfl
      have hcz20_1 : wc.cell? ⟨gb167, 1, none⟩ = some (.int .i64 a0_1) := (blk_cell BK167.out 1).trans rfl
      have hcz20_2 : wc.cell? ⟨gb167, 2, none⟩ = some (.string a0_2) := (blk_cell BK167.out 2).trans rfl
      have hcz20_3 : wc.cell? ⟨gb167, 3, none⟩ = some (.slice A0_3 l0_3.length c0_3) := (blk_cell BK167.out 3).trans rfl
      have hcz20_4 : wc.cell? ⟨gb167, 4, none⟩ = some (.int .i64 a0_4) := (blk_cell BK167.out 4).trans rfl
      have hcz20_5 : wc.cell? ⟨gb167, 5, none⟩ = some (.int .i64 a0_5) := (blk_cell BK167.out 5).trans rfl
      have hfz20_0 := blk_frozen BK167.out 0
      have hfz20_1 := blk_frozen BK167.out 1
      have hfz20_2 := blk_frozen BK167.out 2
      have hfz20_3 := blk_frozen BK167.out 3
      have hfz20_4 := blk_frozen BK167.out 4
      have hfz20_5 := blk_frozen BK167.out 5
      go_wp2
      go_meet
      case rel => exact ⟨_, (true), (by (rfl)), H', ⟨by have := HJ6.out; (omega)⟩, ⟨by exact BK167.out⟩, ⟨HB.out⟩⟩
    rw [if_pos c16] at H
    have c16b0 : (a0_2.toList == ([] : List UInt8)) = true := beq_iff_eq.mpr c16
    have c16b1 : (a0_2.toList != ([] : List UInt8)) = false := bne_eq_false_iff_eq.mpr c16
    clear c16
    (skip)
    by_cases c17 : a0_4 = 0
    rotate_left
    · rw [if_neg c17] at H
      have c17b0 : (a0_4 == 0) = false := beq_eq_false_iff_ne.mpr c17
      have c17b1 : (a0_4 != 0) = true := bne_iff_ne.mpr c17
      have H' := Aside0.mk H
      clear H
      have hcz19_0 : wc.cell? ⟨gb167, 0, none⟩ = some (.int .i64 a0_0) := (blk_cell BK167.out 0).trans rfl
      have hcz19_1 : wc.cell? ⟨gb167, 1, none⟩ = some (.int .i64 a0_1) := (blk_cell BK167.out 1).trans rfl
      have hcz19_2 : wc.cell? ⟨gb167, 2, none⟩ = some (.string a0_2) := (blk_cell BK167.out 2).trans rfl
      have hcz19_3 : wc.cell? ⟨gb167, 3, none⟩ = some (.slice A0_3 l0_3.length c0_3) := (blk_cell BK167.out 3).trans rfl
      have hcz19_4 : wc.cell? ⟨gb167, 4, none⟩ = some (.int .i64 a0_4) := (blk_cell BK167.out 4).trans rfl
      have hcz19_5 : wc.cell? ⟨gb167, 5, none⟩ = some (.int .i64 a0_5) := (blk_cell BK167.out 5).trans rfl
      have hfz19_0 := blk_frozen BK167.out 0
      have hfz19_1 := blk_frozen BK167.out 1
      have hfz19_2 := blk_frozen BK167.out 2
      have hfz19_3 := blk_frozen BK167.out 3
      have hfz19_4 := blk_frozen BK167.out 4
      have hfz19_5 := blk_frozen BK167.out 5
      go_wp2
      go_meet
      case rel => exact ⟨_, (true), (by (rfl)), H', ⟨by have := HJ6.out; (omega)⟩, ⟨by exact BK167.out⟩, ⟨HB.out⟩⟩
    rw [if_pos c17] at H
    have c17b0 : (a0_4 == 0) = true := beq_iff_eq.mpr c17
    have c17b1 : (a0_4 != 0) = false := bne_eq_false_iff_eq.mpr c17
    clear c17
    have H' := Aside0.mk H
    clear H
    have hcz18_0 : wc.cell? ⟨gb167, 0, none⟩ = some (.int .i64 a0_0) := (blk_cell BK167.out 0).trans rfl
    have hcz18_1 : wc.cell? ⟨gb167, 1, none⟩ = some (.int .i64 a0_1) := (blk_cell BK167.out 1).trans rfl
    have hcz18_2 : wc.cell? ⟨gb167, 2, none⟩ = some (.string a0_2) := (blk_cell BK167.out 2).trans rfl
    have hcz18_3 : wc.cell? ⟨gb167, 3, none⟩ = some (.slice A0_3 l0_3.length c0_3) := (blk_cell BK167.out 3).trans rfl
    have hcz18_4 : wc.cell? ⟨gb167, 4, none⟩ = some (.int .i64 a0_4) := (blk_cell BK167.out 4).trans rfl
    have hcz18_5 : wc.cell? ⟨gb167, 5, none⟩ = some (.int .i64 a0_5) := (blk_cell BK167.out 5).trans rfl
    have hfz18_0 := blk_frozen BK167.out 0
    have hfz18_1 := blk_frozen BK167.out 1
    have hfz18_2 := blk_frozen BK167.out 2
    have hfz18_3 := blk_frozen BK167.out 3
    have hfz18_4 := blk_frozen BK167.out 4
    have hfz18_5 := blk_frozen BK167.out 5
    go_wp2
    go_meet
    case rel => exact ⟨_, (a0_5 != 0), (by (rfl)), H', ⟨by have := HJ6.out; (omega)⟩, ⟨by exact BK167.out⟩, ⟨HB.out⟩⟩
  clear HC15
  obtain ⟨kq, x34_14, rfl, HA, HJ14, BK167, HB⟩ := hcut
  rcases kq with _ | kj14
  · exact absurd HA.out (by simp [notaryref36_Term.j1])
  have H := HA.out
  clear HA
  simp only [notaryref36_Term.j1] at H
  by_cases c21 : x34_14 = true
  · subst c21
    have H1 : (some (([] : List Int), 2)) = some (r1, r2) := by rw [if_pos rfl] at H; exact H
    clear H
    have H := H1
    clear H1
    obtain ⟨y174, hy174⟩ : ∃ y_ : List Int, y_ = ([] : List Int) := ⟨_, rfl⟩
    replace H : (some (y174, 2)) = some (r1, r2) := by (rw [hy174]; with_reducible exact H)
    have Ny174 := Aside0.mk hy174
    clear hy174
    simp only [Option.some.injEq, Prod.mk.injEq] at H
    obtain ⟨rfl, rfl⟩ := H
    go_wp2_with ((((with_reducible refine gate_dst (N := 35) rfl ?_); refine Kd.R_lit (Kd.int .u8) _ 5 ?hg (N := 35) ?hd (xs := ([] : List Int)) (inner := []) (ok := fun _ => True) (okp := fun _ => True) ?hr ?hp (fun _ hk => hk) trivial (Below.refl _ _) (Nat.le_refl _) (by simp) ?_; (case hd => rfl); (case hg => rfl); (case hr => (go_simp; done)); (case hp => exact (Reps.none _ _)); intro v175 w22 ho23 hb hg_ hnew_; clear hg_ hnew_; (rw [← Ny174.out] at ho23); have n0_ := Aside0.mk (Kd.R_lower ho23 (below_size HB.out)); have n1_ := Aside0.mk (blk_below (g := gb167) (o := .cells #[.int .i64 a0_0, .int .i64 a0_1, .string a0_2, .slice A0_3 l0_3.length c0_3, .int .i64 a0_4, .int .i64 a0_5] 25 (0, 0)) (by exact BK167.out) hb); have n2_ := Aside0.mk (below_step HB.out hb); clear BK167; clear HB; have HO176 := n0_; have BK167 := n1_; have HB := n2_; clear n0_ n1_ n2_; clear hb ho23)))
    go_ret2
    exact ⟨_, by (rfl), by exact HO176.out, HB.out⟩
  replace c21 := Bool.eq_false_iff.mpr c21
  subst c21
  have H1 : ((some (([(a0_0) % 256] : List Int) : List Int)).bind fun y177 => ((notaryref01_Zig.f a0_1).bind fun t180 => ((notaryref01_Bytes.f kj14 t180).bind fun t181 => (if y177.length + t181.length < 140737488355328 then ((some (y177 ++ t181 : List Int)).bind fun y184 => ((notaryref01_Bytes.f kj14 (IntKind.u64.wrap (l0_3.length : Int))).bind fun t187 => (if y184.length + t187.length < 140737488355328 then (notaryref36_Term.l0 kj14 a1 (y184 ++ t187) 0 a0_0 a0_1 a0_2 l0_3 a0_4 a0_5) else (none)))) else (none))))) = some (r1, r2) := by rw [if_neg (show ¬ (false = true) by decide)] at H; exact H
  clear H
  have H := H1
  clear H1
  obtain ⟨y177, hy177⟩ : ∃ y_ : List Int, y_ = (([(a0_0) % 256] : List Int)) := ⟨_, rfl⟩
  replace H : ((notaryref01_Zig.f a0_1).bind fun t180 => ((notaryref01_Bytes.f kj14 t180).bind fun t181 => (if y177.length + t181.length < 140737488355328 then ((some (y177 ++ t181 : List Int)).bind fun y184 => ((notaryref01_Bytes.f kj14 (IntKind.u64.wrap (l0_3.length : Int))).bind fun t187 => (if y184.length + t187.length < 140737488355328 then (notaryref36_Term.l0 kj14 a1 (y184 ++ t187) 0 a0_0 a0_1 a0_2 l0_3 a0_4 a0_5) else (none)))) else (none)))) = some (r1, r2) := by ((have H2_ := (Option.bind_some _ _).symm.trans H; rw [hy177]; with_reducible exact H2_))
  have Ny177 := Aside0.mk hy177
  clear hy177
  replace H := Option.bind_eq_some_iff.mp H
  obtain ⟨t180, A240, H⟩ := H
  replace H : ((notaryref01_Bytes.f kj14 t180).bind fun t181 => (if y177.length + t181.length < 140737488355328 then ((some (y177 ++ t181 : List Int)).bind fun y184 => ((notaryref01_Bytes.f kj14 (IntKind.u64.wrap (l0_3.length : Int))).bind fun t187 => (if y184.length + t187.length < 140737488355328 then (notaryref36_Term.l0 kj14 a1 (y184 ++ t187) 0 a0_0 a0_1 a0_2 l0_3 a0_4 a0_5) else (none)))) else (none))) = some (r1, r2) := H
  have A24 := Aside0.mk A240
  clear A240
  replace H := Option.bind_eq_some_iff.mp H
  obtain ⟨t181, A250, H⟩ := H
  replace H : (if y177.length + t181.length < 140737488355328 then ((some (y177 ++ t181 : List Int)).bind fun y184 => ((notaryref01_Bytes.f kj14 (IntKind.u64.wrap (l0_3.length : Int))).bind fun t187 => (if y184.length + t187.length < 140737488355328 then (notaryref36_Term.l0 kj14 a1 (y184 ++ t187) 0 a0_0 a0_1 a0_2 l0_3 a0_4 a0_5) else (none)))) else (none)) = some (r1, r2) := H
  have A25 := Aside0.mk A250
  clear A250
  by_cases c26 : y177.length + t181.length < 140737488355328
  rotate_left
  · rw [if_neg c26] at H
    exact absurd H (by simp)

  rw [if_pos c26] at H
  have LMc26 := Aside0.mk c26
  clear c26
  obtain ⟨y184, hy184⟩ : ∃ y_ : List Int, y_ = (y177 ++ t181) := ⟨_, rfl⟩
  replace H : ((notaryref01_Bytes.f kj14 (IntKind.u64.wrap (l0_3.length : Int))).bind fun t187 => (if y184.length + t187.length < 140737488355328 then (notaryref36_Term.l0 kj14 a1 (y184 ++ t187) 0 a0_0 a0_1 a0_2 l0_3 a0_4 a0_5) else (none))) = some (r1, r2) := by ((have H2_ := (Option.bind_some _ _).symm.trans H; rw [hy184]; with_reducible exact H2_))
  have Ny184 := Aside0.mk hy184
  clear hy184
  replace H := Option.bind_eq_some_iff.mp H
  obtain ⟨t187, A270, H⟩ := H
  replace H : (if y184.length + t187.length < 140737488355328 then (notaryref36_Term.l0 kj14 a1 (y184 ++ t187) 0 a0_0 a0_1 a0_2 l0_3 a0_4 a0_5) else (none)) = some (r1, r2) := H
  have A27 := Aside0.mk A270
  clear A270
  by_cases c28 : y184.length + t187.length < 140737488355328
  rotate_left
  · rw [if_neg c28] at H
    exact absurd H (by simp)
  rw [if_pos c28] at H
  have LMc28 := Aside0.mk c28
  clear c28
  obtain ⟨y190, hy190⟩ : ∃ y_ : List Int, y_ = (y184 ++ t187) := ⟨_, rfl⟩
  replace H : (notaryref36_Term.l0 kj14 a1 y190 0 a0_0 a0_1 a0_2 l0_3 a0_4 a0_5) = some (r1, r2) := by (rw [hy190]; with_reducible exact H)
  have Ny190 := Aside0.mk hy190
  clear hy190
  have H' := Aside0.mk H
  clear H
  try go_wp2
  have n0_ := Aside0.mk (blk_drew BK167.out)
  have n1_ := Aside0.mk (below_drew1 HB.out)
  clear BK167
  clear HB
  have BK167 := n0_
  have HB := n1_
  clear n0_ n1_
  refine start_ (n := 10) (S := fun w' => w'.cell? ⟨gb167, 0, none⟩ = some (.int .i64 a0_0) ∧ w'.cell? ⟨gb167, 1, none⟩ = some (.int .i64 a0_1) ∧ w'.cell? ⟨gb167, 2, none⟩ = some (.string a0_2) ∧ w'.cell? ⟨gb167, 3, none⟩ = some (.slice A0_3 l0_3.length c0_3) ∧ w'.cell? ⟨gb167, 4, none⟩ = some (.int .i64 a0_4) ∧ w'.cell? ⟨gb167, 5, none⟩ = some (.int .i64 a0_5)) (ds := []) (bl 10 0) (by kernel_rfl) rfl rfl ⟨(blk_cell BK167.out 0).trans rfl, (blk_cell BK167.out 1).trans rfl, (blk_cell BK167.out 2).trans rfl, (blk_cell BK167.out 3).trans rfl, (blk_cell BK167.out 4).trans rfl, (blk_cell BK167.out 5).trans rfl⟩ (fun hHeld => ?_); refine with_tabW notaryref36_Term.tab7 notaryref36_Term.bits7 (fun HT_ HW_ => ?_)
  generalize wc.drew = w29 at BK167 HB hHeld ⊢
  refine pure_ (i := 0) (N := some 36) (v := ?_) (a' := ?_) (bl 10 1) rfl rfl (any_of HT_.out (by kernel_rfl)) (fun _ _ _ h => h) (Or.inl ⟨by rfl, ?_⟩) ?_ ?_
  rotate_left
  · intro w'; go_simp; with_reducible rfl
  rotate_left
  · simp only [Act.put, sa_, sz_, ss_, i64_w, i32_w]; rfl
  refine pure_ (i := 4) (N := some 40) (v := ?_) (a' := ?_) (bl 10 17) rfl rfl (any_of HT_.out (by kernel_rfl)) (fun _ _ _ h => h) (Or.inl ⟨by rfl, ?_⟩) ?_ ?_
  rotate_left
  · intro w'; go_simp; with_reducible rfl
  rotate_left
  · simp only [Act.put, sa_, sz_, ss_, i64_w, i32_w]; rfl
  refine take_ (i := 1) (N := some 37) (v := ?_) (a' := ?_) (bl 10 19) rfl rfl (take_ofW HT_.out HW_.out (by kernel_rfl)) (fun _ _ _ h => h) (Or.inl ⟨by rfl, ?_⟩) hHeld ?_ ?_
  rotate_left
  · rintro w' ⟨s0, s1, s2, s3, s4, s5⟩
    go_simp
    with_reducible rfl
  rotate_left
  · simp only [Act.put, sa_, sz_, ss_, i64_w, i32_w]; rfl
  refine pure_ (i := 2) (N := some 38) (v := ?_) (a' := ?_) (bl 10 23) rfl rfl (any_of HT_.out (by kernel_rfl)) (fun _ _ _ h => h) (Or.inl ⟨by rfl, ?_⟩) ?_ ?_
  rotate_left
  · intro w'; go_simp; with_reducible rfl
  rotate_left
  · simp only [Act.put, sa_, sz_, ss_, i64_w, i32_w]; rfl
  refine take_ (i := 5) (N := some 41) (v := ?_) (a' := ?_) (bl 10 55) rfl rfl (take_ofW HT_.out HW_.out (by kernel_rfl)) (fun _ _ _ h => h) (Or.inl ⟨by rfl, ?_⟩) hHeld ?_ ?_
  rotate_left
  · rintro w' ⟨s0, s1, s2, s3, s4, s5⟩
    go_simp
    with_reducible rfl
  rotate_left
  · simp only [Act.put, sa_, sz_, ss_, i64_w, i32_w]; rfl
  refine join_ (σ := Value × Value) 2 (bl 10 255) (fun s_ => [(39, s_.1), (42, .int .u64 t180), (43, s_.2)]) (fun s_ w' => (w'.cell? ⟨gb167, 0, none⟩ = some (.int .i64 a0_0) ∧ w'.cell? ⟨gb167, 1, none⟩ = some (.int .i64 a0_1) ∧ w'.cell? ⟨gb167, 2, none⟩ = some (.string a0_2) ∧ w'.cell? ⟨gb167, 3, none⟩ = some (.slice A0_3 l0_3.length c0_3) ∧ w'.cell? ⟨gb167, 4, none⟩ = some (.int .i64 a0_4) ∧ w'.cell? ⟨gb167, 5, none⟩ = some (.int .i64 a0_5)) ∧ (Kd.R (Kd.int .u8) 5 w' w.heap.size (fun k_ => some k_ ≠ (s_.2 : Value).ownBlock) s_.1 y177) ∧ (Kd.R (Kd.int .u8) 5 w' w.heap.size (fun k_ => some k_ ≠ (s_.1 : Value).ownBlock) s_.2 t181) ∧ (w'.heap[gb167]? = some (.cells #[.int .i64 a0_0, .int .i64 a0_1, .string a0_2, .slice A0_3 l0_3.length c0_3, .int .i64 a0_4, .int .i64 a0_5] 25 (0, 0))) ∧ (Below w.heap.size w w')) ?_ ?_
  rotate_left
  · intro hCont
    refine two_ (i := 3) (j := 6) (Ni := some 39) (Nj := some 42) (bl 10 63) (bl 10 119) rfl rfl rfl rfl (two_of HT_.out (by kernel_rfl)) (by decide) (by decide) (fun K hK => ?_) (fun K hK => ?_)
    · skip
      refine Kd.R_lit_step (Kd.int .u8) _ 5 ?hg (N := 39) ?hd (xs := ([(a0_0) % 256] : List Int)) (inner := [.int .u8 ((a0_0) % 256)]) (ok := fun _ => True) (okp := fun _ => True) ?hr ?hp (fun _ hk => hk) trivial (Below.refl _ _) (Nat.le_refl _) (by simp) ?_; (case hd => rfl); (case hg => rfl); (case hr => (go_simp; rfl)); (case hp => exact (Reps.one (show Kd.M (Kd.int .u8) _ _ _ ((a0_0) % 256) [.int .u8 ((a0_0) % 256)] from rfl) (Reps.none _ _)))
      intro v178 w30 ho31 hb hg_ hnew_
      clear hg_ hnew_
      (rw [← Ny177.out] at ho31)
      have n0_ := Aside0.mk (Kd.R_lower ho31 (below_size HB.out))
      have n1_ := Aside0.mk (blk_below (g := gb167) (o := .cells #[.int .i64 a0_0, .int .i64 a0_1, .string a0_2, .slice A0_3 l0_3.length c0_3, .int .i64 a0_4, .int .i64 a0_5] 25 (0, 0)) (by exact BK167.out) hb)
      have n2_ := Aside0.mk (below_step HB.out hb)
      clear BK167
      clear HB
      have HO179 := n0_
      have BK167 := n1_
      have HB := n2_
      clear n0_ n1_ n2_
      clear hb ho31
      refine hK.out _ _ ⟨(blk_cell BK167.out 0).trans rfl, (blk_cell BK167.out 1).trans rfl, (blk_cell BK167.out 2).trans rfl, (blk_cell BK167.out 3).trans rfl, (blk_cell BK167.out 4).trans rfl, (blk_cell BK167.out 5).trans rfl⟩ (fun hHeld => ?_)
      clear hK K
      refine norm_ (a' := ?_) ?_ ?_
      rotate_left
      · show Act.put _ (some 39) _ = _
        simp only [Act.put, sa_, sz_, ss_, i64_w, i32_w]
        rfl
      refine one_ (i := 6) (N := some 42) (bl 10 127) rfl rfl (one_of HT_.out (by kernel_rfl)) (by decide) (fun K hK => ?_)
      refine goes_ Try.func35 (by kernel_rfl) rfl #[.int .i64 a0_1] (by rfl) rfl rfl (by (try simp only [List.map_toArray, List.map_cons, List.map_nil]); (rfl)) ?_
      with_reducible refine (notaryref01_Zig.calls a0_1 t180 _ A24.out).mono ?_
      rintro e w' ⟨rfl, ⟨nd, rfl⟩⟩
      refine ⟨_, rfl, ?_⟩
      refine hK.out _ _ ⟨(blk_cell BK167.out 0).trans rfl, (blk_cell BK167.out 1).trans rfl, (blk_cell BK167.out 2).trans rfl, (blk_cell BK167.out 3).trans rfl, (blk_cell BK167.out 4).trans rfl, (blk_cell BK167.out 5).trans rfl⟩ (fun hHeld => ?_)
      clear hK K
      refine norm_ (a' := ?_) ?_ ?_
      rotate_left
      · show Act.put _ (some 42) _ = _
        simp only [Act.put, sa_, sz_, ss_, i64_w, i32_w]
        rfl
      refine one_ (i := 7) (N := some 43) (bl 10 255) rfl rfl (one_of HT_.out (by kernel_rfl)) (by decide) (fun K hK => ?_)
      refine goes_ Try.func34 (by kernel_rfl) rfl #[.int .u64 t180] (by rfl) rfl rfl (by (try simp only [List.map_toArray, List.map_cons, List.map_nil]); (rfl)) ?_
      with_reducible refine (notaryref01_Bytes.calls kj14 t180 t181 _ A25.out).mono ?_
      rintro e w32 ⟨v182, rfl, ho0, hb⟩
      refine ⟨_, rfl, ?_⟩
      have n0_ := Aside0.mk (Kd.R_elder' (by (with_reducible repeat (apply Kd.R_drewN)); exact HO179.out) (Kd.R_base ho0) hb)
      have n1_ := Aside0.mk (Kd.R_lower (Kd.R_new' ho0 (Kd.R_lt (by (with_reducible repeat (apply Kd.R_drewN)); exact HO179.out))) (below_size (by repeat (with_reducible first | exact HB.out | apply pw_below_drewN))))
      have n2_ := Aside0.mk (blk_below (g := gb167) (o := .cells #[.int .i64 a0_0, .int .i64 a0_1, .string a0_2, .slice A0_3 l0_3.length c0_3, .int .i64 a0_4, .int .i64 a0_5] 25 (0, 0)) (by (with_reducible repeat (refine blk_drewN ?_ _)); exact BK167.out) hb)
      have n3_ := Aside0.mk (below_step (by repeat (with_reducible first | exact HB.out | apply pw_below_drewN)) hb)
      clear HO179
      clear BK167
      clear HB
      have HO179 := n0_
      have HO183 := n1_
      have BK167 := n2_
      have HB := n3_
      clear n0_ n1_ n2_ n3_
      (try clear hb)
      (skip)
      (skip)
      (skip)
      (try clear ho0)
      refine hK.out _ _ ⟨(blk_cell BK167.out 0).trans rfl, (blk_cell BK167.out 1).trans rfl, (blk_cell BK167.out 2).trans rfl, (blk_cell BK167.out 3).trans rfl, (blk_cell BK167.out 4).trans rfl, (blk_cell BK167.out 5).trans rfl⟩ (fun hHeld => ?_)
      clear hK K
      refine norm_ (a' := ?_) ?_ ?_
      rotate_left
      · show Act.put _ (some 43) _ = _
        simp only [Act.put, sa_, sz_, ss_, i64_w, i32_w]
        rfl
      exact norm_ (by simp only [putAll, Act.put, sa_, sz_, ss_]) (hCont (v178, v182) _ ⟨hHeld, (by exact Kd.R_mono HO179.out (fun _ hk => hk.2)), (by exact Kd.R_mono HO183.out (fun _ hk => hk.2)), (by exact BK167.out), HB.out⟩)
    · skip
      refine goes_ Try.func35 (by kernel_rfl) rfl #[.int .i64 a0_1] (by rfl) rfl rfl (by (try simp only [List.map_toArray, List.map_cons, List.map_nil]); (rfl)) ?_
      with_reducible refine (notaryref01_Zig.calls a0_1 t180 _ A24.out).mono ?_
      rintro e w' ⟨rfl, ⟨nd, rfl⟩⟩
      refine ⟨_, rfl, ?_⟩
      refine hK.out _ _ ⟨(blk_cell BK167.out 0).trans rfl, (blk_cell BK167.out 1).trans rfl, (blk_cell BK167.out 2).trans rfl, (blk_cell BK167.out 3).trans rfl, (blk_cell BK167.out 4).trans rfl, (blk_cell BK167.out 5).trans rfl⟩ (fun hHeld => ?_)
      clear hK K
      refine norm_ (a' := ?_) ?_ ?_
      rotate_left
      · show Act.put _ (some 42) _ = _
        simp only [Act.put, sa_, sz_, ss_, i64_w, i32_w]
        rfl
      refine two_ (i := 3) (j := 7) (Ni := some 39) (Nj := some 43) (bl 10 127) (bl 10 247) rfl rfl rfl rfl (two_of HT_.out (by kernel_rfl)) (by decide) (by decide) (fun K hK => ?_) (fun K hK => ?_)
      · skip
        refine Kd.R_lit_step (Kd.int .u8) _ 5 ?hg (N := 39) ?hd (xs := ([(a0_0) % 256] : List Int)) (inner := [.int .u8 ((a0_0) % 256)]) (ok := fun _ => True) (okp := fun _ => True) ?hr ?hp (fun _ hk => hk) trivial (Below.refl _ _) (Nat.le_refl _) (by simp) ?_; (case hd => rfl); (case hg => rfl); (case hr => (go_simp; rfl)); (case hp => exact (Reps.one (show Kd.M (Kd.int .u8) _ _ _ ((a0_0) % 256) [.int .u8 ((a0_0) % 256)] from rfl) (Reps.none _ _)))
        intro v178 w30 ho31 hb hg_ hnew_
        clear hg_ hnew_
        (rw [← Ny177.out] at ho31)
        have n0_ := Aside0.mk (Kd.R_lower ho31 (below_size (by repeat (with_reducible first | exact HB.out | apply pw_below_drewN))))
        have n1_ := Aside0.mk (blk_below (g := gb167) (o := .cells #[.int .i64 a0_0, .int .i64 a0_1, .string a0_2, .slice A0_3 l0_3.length c0_3, .int .i64 a0_4, .int .i64 a0_5] 25 (0, 0)) (by (with_reducible repeat (refine blk_drewN ?_ _)); exact BK167.out) hb)
        have n2_ := Aside0.mk (below_step (by repeat (with_reducible first | exact HB.out | apply pw_below_drewN)) hb)
        clear BK167
        clear HB
        have HO179 := n0_
        have BK167 := n1_
        have HB := n2_
        clear n0_ n1_ n2_
        clear hb ho31
        refine hK.out _ _ ⟨(blk_cell BK167.out 0).trans rfl, (blk_cell BK167.out 1).trans rfl, (blk_cell BK167.out 2).trans rfl, (blk_cell BK167.out 3).trans rfl, (blk_cell BK167.out 4).trans rfl, (blk_cell BK167.out 5).trans rfl⟩ (fun hHeld => ?_)
        clear hK K
        refine norm_ (a' := ?_) ?_ ?_
        rotate_left
        · show Act.put _ (some 39) _ = _
          simp only [Act.put, sa_, sz_, ss_, i64_w, i32_w]
          rfl
        refine one_ (i := 7) (N := some 43) (bl 10 255) rfl rfl (one_of HT_.out (by kernel_rfl)) (by decide) (fun K hK => ?_)
        refine goes_ Try.func34 (by kernel_rfl) rfl #[.int .u64 t180] (by rfl) rfl rfl (by (try simp only [List.map_toArray, List.map_cons, List.map_nil]); (rfl)) ?_
        with_reducible refine (notaryref01_Bytes.calls kj14 t180 t181 _ A25.out).mono ?_
        rintro e w32 ⟨v182, rfl, ho0, hb⟩
        refine ⟨_, rfl, ?_⟩
        have n0_ := Aside0.mk (Kd.R_elder' (by exact HO179.out) (Kd.R_base ho0) hb)
        have n1_ := Aside0.mk (Kd.R_lower (Kd.R_new' ho0 (Kd.R_lt (by exact HO179.out))) (below_size HB.out))
        have n2_ := Aside0.mk (blk_below (g := gb167) (o := .cells #[.int .i64 a0_0, .int .i64 a0_1, .string a0_2, .slice A0_3 l0_3.length c0_3, .int .i64 a0_4, .int .i64 a0_5] 25 (0, 0)) (by exact BK167.out) hb)
        have n3_ := Aside0.mk (below_step HB.out hb)
        clear HO179
        clear BK167
        clear HB
        have HO179 := n0_
        have HO183 := n1_
        have BK167 := n2_
        have HB := n3_
        clear n0_ n1_ n2_ n3_
        (try clear hb)
        (skip)
        (skip)
        (skip)
        (try clear ho0)
        refine hK.out _ _ ⟨(blk_cell BK167.out 0).trans rfl, (blk_cell BK167.out 1).trans rfl, (blk_cell BK167.out 2).trans rfl, (blk_cell BK167.out 3).trans rfl, (blk_cell BK167.out 4).trans rfl, (blk_cell BK167.out 5).trans rfl⟩ (fun hHeld => ?_)
        clear hK K
        refine norm_ (a' := ?_) ?_ ?_
        rotate_left
        · show Act.put _ (some 43) _ = _
          simp only [Act.put, sa_, sz_, ss_, i64_w, i32_w]
          rfl
        exact norm_ (by simp only [putAll, Act.put, sa_, sz_, ss_]) (hCont (v178, v182) _ ⟨hHeld, (by exact Kd.R_mono HO179.out (fun _ hk => hk.2)), (by exact Kd.R_mono HO183.out (fun _ hk => hk.2)), (by exact BK167.out), HB.out⟩)
      · skip
        refine goes_ Try.func34 (by kernel_rfl) rfl #[.int .u64 t180] (by rfl) rfl rfl (by (try simp only [List.map_toArray, List.map_cons, List.map_nil]); (rfl)) ?_
        with_reducible refine (notaryref01_Bytes.calls kj14 t180 t181 _ A25.out).mono ?_
        rintro e w30 ⟨v182, rfl, ho0, hb⟩
        refine ⟨_, rfl, ?_⟩
        have n0_ := Aside0.mk (Kd.R_lower ho0 (below_size (by repeat (with_reducible first | exact HB.out | apply pw_below_drewN))))
        have n1_ := Aside0.mk (blk_below (g := gb167) (o := .cells #[.int .i64 a0_0, .int .i64 a0_1, .string a0_2, .slice A0_3 l0_3.length c0_3, .int .i64 a0_4, .int .i64 a0_5] 25 (0, 0)) (by (with_reducible repeat (refine blk_drewN ?_ _)); exact BK167.out) hb)
        have n2_ := Aside0.mk (below_step (by repeat (with_reducible first | exact HB.out | apply pw_below_drewN)) hb)
        clear BK167
        clear HB
        have HO183 := n0_
        have BK167 := n1_
        have HB := n2_
        clear n0_ n1_ n2_
        (try clear hb)
        (skip)
        (skip)
        (skip)
        (try clear ho0)
        refine hK.out _ _ ⟨(blk_cell BK167.out 0).trans rfl, (blk_cell BK167.out 1).trans rfl, (blk_cell BK167.out 2).trans rfl, (blk_cell BK167.out 3).trans rfl, (blk_cell BK167.out 4).trans rfl, (blk_cell BK167.out 5).trans rfl⟩ (fun hHeld => ?_)
        clear hK K
        refine norm_ (a' := ?_) ?_ ?_
        rotate_left
        · show Act.put _ (some 43) _ = _
          simp only [Act.put, sa_, sz_, ss_, i64_w, i32_w]
          rfl
        refine one_ (i := 3) (N := some 39) (bl 10 255) rfl rfl (one_of HT_.out (by kernel_rfl)) (by decide) (fun K hK => ?_)
        refine Kd.R_lit_step (Kd.int .u8) _ 5 ?hg (N := 39) ?hd (xs := ([(a0_0) % 256] : List Int)) (inner := [.int .u8 ((a0_0) % 256)]) (ok := fun _ => True) (okp := fun _ => True) ?hr ?hp (fun _ hk => hk) trivial (Below.refl _ _) (Nat.le_refl _) (by simp) ?_; (case hd => rfl); (case hg => rfl); (case hr => (go_simp; rfl)); (case hp => exact (Reps.one (show Kd.M (Kd.int .u8) _ _ _ ((a0_0) % 256) [.int .u8 ((a0_0) % 256)] from rfl) (Reps.none _ _)))
        intro v178 w31 ho32 hb hg_ hnew_
        clear hg_ hnew_
        (rw [← Ny177.out] at ho32)
        have n0_ := Aside0.mk (Kd.R_elder' (by exact HO183.out) (Kd.R_base ho32) hb)
        have n1_ := Aside0.mk (Kd.R_lower (Kd.R_new' ho32 (Kd.R_lt (by exact HO183.out))) (below_size HB.out))
        have n2_ := Aside0.mk (blk_below (g := gb167) (o := .cells #[.int .i64 a0_0, .int .i64 a0_1, .string a0_2, .slice A0_3 l0_3.length c0_3, .int .i64 a0_4, .int .i64 a0_5] 25 (0, 0)) (by exact BK167.out) hb)
        have n3_ := Aside0.mk (below_step HB.out hb)
        clear HO183
        clear BK167
        clear HB
        have HO183 := n0_
        have HO179 := n1_
        have BK167 := n2_
        have HB := n3_
        clear n0_ n1_ n2_ n3_
        clear hb ho32
        refine hK.out _ _ ⟨(blk_cell BK167.out 0).trans rfl, (blk_cell BK167.out 1).trans rfl, (blk_cell BK167.out 2).trans rfl, (blk_cell BK167.out 3).trans rfl, (blk_cell BK167.out 4).trans rfl, (blk_cell BK167.out 5).trans rfl⟩ (fun hHeld => ?_)
        clear hK K
        refine norm_ (a' := ?_) ?_ ?_
        rotate_left
        · show Act.put _ (some 39) _ = _
          simp only [Act.put, sa_, sz_, ss_, i64_w, i32_w]
          rfl
        exact norm_ (by simp only [putAll, Act.put, sa_, sz_, ss_]) (hCont (v178, v182) _ ⟨hHeld, (by exact Kd.R_mono HO179.out (fun _ hk => hk.2)), (by exact Kd.R_mono HO183.out (fun _ hk => hk.2)), (by exact BK167.out), HB.out⟩)
  rintro ⟨v178, v182⟩ w33 ⟨hS_, h0_, h1_, h2_, h3_⟩
  have n0_ : Aside0 (Kd.R (Kd.int .u8) 5 w33 w.heap.size (fun k_ => some k_ ≠ (v182 : Value).ownBlock) v178 y177) := ⟨h0_⟩
  have n1_ : Aside0 (Kd.R (Kd.int .u8) 5 w33 w.heap.size (fun k_ => some k_ ≠ (v178 : Value).ownBlock) v182 t181) := ⟨h1_⟩
  have n2_ : Aside0 (w33.heap[gb167]? = some (.cells #[.int .i64 a0_0, .int .i64 a0_1, .string a0_2, .slice A0_3 l0_3.length c0_3, .int .i64 a0_4, .int .i64 a0_5] 25 (0, 0))) := ⟨h2_⟩
  have n3_ : Aside0 (Below w.heap.size w w33) := ⟨h3_⟩
  clear BK167
  clear HB
  clear h0_ h1_ h2_ h3_
  have HO179 := n0_
  have HO183 := n1_
  have BK167 := n2_
  have HB := n3_
  clear n0_ n1_ n2_ n3_
  have hHeld : w33.cell? ⟨gb167, 0, none⟩ = some (.int .i64 a0_0) ∧ w33.cell? ⟨gb167, 1, none⟩ = some (.int .i64 a0_1) ∧ w33.cell? ⟨gb167, 2, none⟩ = some (.string a0_2) ∧ w33.cell? ⟨gb167, 3, none⟩ = some (.slice A0_3 l0_3.length c0_3) ∧ w33.cell? ⟨gb167, 4, none⟩ = some (.int .i64 a0_4) ∧ w33.cell? ⟨gb167, 5, none⟩ = some (.int .i64 a0_5) := hS_
  obtain ⟨Ao35, co35, eo35⟩ := Kd.R_slice HO183.out
  (subst eo35)
  refine norm_ (a' := ?_) ?_ ?_
  rotate_left
  · simp only [putAll, Act.put, sa_, sz_, ss_]
    rfl
  refine one_ (i := 8) (N := some 44) (bl 10 511) rfl rfl (one_of HT_.out (by kernel_rfl)) (by decide) (fun K hK => ?_)
  refine Kd.R_append_rows_step (Kd.int .u8) (w0 := w) w.heap.size (by rfl) (.tmp 39) (.tmp 43) 22 5 (.int .u8 0) 1 rfl Try.underlying22 info5 rfl (by decide) (by omega) v178 y177 t181 _ _ _ (fun k_ => some k_ ≠ (.slice Ao35 t181.length co35 : Value).ownBlock) (fun _ => False) rfl rfl ?aO ?aR (fun _ _ h => h) (fun _ h => h.elim) ?aF ?aB ?aS ?aL ?_
  (case aR => repeat ((exact (Kd.R_reads' HO183.out).2.2)))
  (case aB => exact HB.out)
  (case aF => exact (fun k_ hk => Kd.fresh' (Kd.R_lt (by exact HO183.out)) k_ hk))
  (case aO => exact (by exact HO179.out))
  (case aS => exact (below_size HB.out))
  (case aL => have := LMc26.out; omega)
  intro v185 w34 ho hb hg hat
  rw [← Ny184.out] at ho
  have n0_ := Aside0.mk (blk_grown (g := gb167) (o := .cells #[.int .i64 a0_0, .int .i64 a0_1, .string a0_2, .slice A0_3 l0_3.length c0_3, .int .i64 a0_4, .int .i64 a0_5] 25 (0, 0)) (by exact BK167.out) hg (Kd.R_ne HO179.out BK167.out (by decide)))
  have n1_ := Aside0.mk (Kd.R_after (ok := (fun _ => True)) (by exact Kd.R_mono HO183.out (fun _ hk => ⟨trivial, by (exact hk)⟩)) hg hat)
  have n2_ := Aside0.mk (hb)
  have n3_ := Aside0.mk (ho)
  clear BK167
  clear HO183
  clear HB
  clear HO179
  have BK167 := n0_
  have HO183 := n1_
  have HB := n2_
  have HO186 := n3_
  clear n0_ n1_ n2_ n3_
  clear ho hb hg hat
  refine hK.out _ _ ⟨(blk_cell BK167.out 0).trans rfl, (blk_cell BK167.out 1).trans rfl, (blk_cell BK167.out 2).trans rfl, (blk_cell BK167.out 3).trans rfl, (blk_cell BK167.out 4).trans rfl, (blk_cell BK167.out 5).trans rfl⟩ (fun hHeld => ?_)
  clear hK K
  refine norm_ (a' := ?_) ?_ ?_
  rotate_left
  · show Act.put _ (some 44) _ = _
    simp only [Act.put, sa_, sz_, ss_, i64_w, i32_w]
    rfl
  refine pure_ (i := 9) (N := some 6) (v := ?_) (a' := ?_) (bl 10 1023) rfl rfl (any_of HT_.out (by kernel_rfl)) (fun _ _ _ h => h) (Or.inl ⟨by rfl, ?_⟩) ?_ ?_
  rotate_left
  · intro w'; go_simp; with_reducible rfl
  rotate_left
  · simp only [Act.put, sa_, sz_, ss_, i64_w, i32_w]; rfl
  refine done_ (done_of HT_.out (by kernel_rfl)) ?_
  have hcz36_0 : w34.cell? ⟨gb167, 0, none⟩ = some (.int .i64 a0_0) := (blk_cell BK167.out 0).trans rfl
  have hcz36_1 : w34.cell? ⟨gb167, 1, none⟩ = some (.int .i64 a0_1) := (blk_cell BK167.out 1).trans rfl
  have hcz36_2 : w34.cell? ⟨gb167, 2, none⟩ = some (.string a0_2) := (blk_cell BK167.out 2).trans rfl
  have hcz36_3 : w34.cell? ⟨gb167, 3, none⟩ = some (.slice A0_3 l0_3.length c0_3) := (blk_cell BK167.out 3).trans rfl
  have hcz36_4 : w34.cell? ⟨gb167, 4, none⟩ = some (.int .i64 a0_4) := (blk_cell BK167.out 4).trans rfl
  have hcz36_5 : w34.cell? ⟨gb167, 5, none⟩ = some (.int .i64 a0_5) := (blk_cell BK167.out 5).trans rfl
  have hfz36_0 := blk_frozen BK167.out 0
  have hfz36_1 := blk_frozen BK167.out 1
  have hfz36_2 := blk_frozen BK167.out 2
  have hfz36_3 := blk_frozen BK167.out 3
  have hfz36_4 := blk_frozen BK167.out 4
  have hfz36_5 := blk_frozen BK167.out 5
  try go_wp2_with (first | ((with_reducible refine gate_callee (f := 34) rfl ?_); refine goesL_ (some 50) rfl rfl Try.func34 (by kernel_rfl) rfl #[.int .u64 (IntKind.u64.wrap (l0_3.length : Int))] rfl (by (try simp only [List.map_toArray, List.map_cons, List.map_nil]); (rfl)) ?_; (with_reducible refine (notaryref01_Bytes.calls kj14 (IntKind.u64.wrap (l0_3.length : Int)) t187 _ A27.out).mono ?_); rintro e w37 ⟨v188, rfl, ho0, hb⟩; refine ⟨_, rfl, ?_⟩; have n0_ := Aside0.mk (Kd.R_elder' (by exact HO183.out) (Kd.R_base ho0) hb); have n1_ := Aside0.mk (Kd.R_elder' (by exact HO186.out) (Kd.R_base ho0) hb); have n2_ := Aside0.mk (Kd.R_lower (Kd.R_new' (Kd.R_new' ho0 (Kd.R_lt (by exact HO183.out))) (Kd.R_lt (by exact HO186.out))) (below_size HB.out)); have n3_ := Aside0.mk (blk_below (g := gb167) (o := .cells #[.int .i64 a0_0, .int .i64 a0_1, .string a0_2, .slice A0_3 l0_3.length c0_3, .int .i64 a0_4, .int .i64 a0_5] 25 (0, 0)) (by exact BK167.out) hb); have n4_ := Aside0.mk (below_step HB.out hb); clear HO183; clear HO186; clear BK167; clear HB; have HO183 := n0_; have HO186 := n1_; have HO189 := n2_; have BK167 := n3_; have HB := n4_; clear n0_ n1_ n2_ n3_ n4_; (try clear hb); (try clear ho0); obtain ⟨Ao39, co39, eo39⟩ := Kd.R_slice HO189.out; subst eo39) | ((with_reducible refine gate_builtin (b := .append) (xs := #[.tmp 45, .tmp 50]) rfl ?_); at_builtin; refine Kd.R_append_rows (Kd.int .u8) (w0 := w) w.heap.size rfl (.tmp 45) (.tmp 50) 22 5 (.int .u8 0) 1 rfl Try.underlying22 info5 rfl (by decide) (by omega) v185 y184 t187 _ _ _ (fun k_ => some k_ ≠ (.slice Ao35 t181.length co35 : Value).ownBlock ∧ some k_ ≠ (.slice Ao39 t187.length co39 : Value).ownBlock) (fun _ => False) rfl rfl ?aO ?aR (fun _ _ h => h) (fun _ h => h.elim) ?aF ?aB ?aS ?aL ?_; (case aR => repeat ((exact (Kd.R_reads' HO189.out).2.2))); (case aB => exact HB.out); (case aF => exact (fun k_ hk => ⟨Kd.fresh' (Kd.R_lt (by exact HO183.out)) k_ hk, Kd.fresh' (Kd.R_lt (by exact HO189.out)) k_ hk⟩)); (case aO => exact (by exact HO186.out)); (case aS => exact (below_size HB.out)); (case aL => have := LMc28.out; omega); intro v191 w38 ho hb hg hat; rw [← Ny190.out] at ho; have n0_ := Aside0.mk (blk_grown (g := gb167) (o := .cells #[.int .i64 a0_0, .int .i64 a0_1, .string a0_2, .slice A0_3 l0_3.length c0_3, .int .i64 a0_4, .int .i64 a0_5] 25 (0, 0)) (by exact BK167.out) hg (Kd.R_ne HO186.out BK167.out (by decide))); have n1_ := Aside0.mk (Kd.R_after (ok := (fun k_ => some k_ ≠ (.slice Ao39 t187.length co39 : Value).ownBlock)) (by exact Kd.R_mono HO183.out (fun _ hk => ⟨hk.2, hk.1.2⟩)) hg hat); have n2_ := Aside0.mk (Kd.R_after (ok := (fun k_ => some k_ ≠ (.slice Ao35 t181.length co35 : Value).ownBlock)) (by exact Kd.R_mono HO189.out (fun _ hk => ⟨hk.1.2, hk.2⟩)) hg hat); have n3_ := Aside0.mk (hb); have n4_ := Aside0.mk (ho); clear BK167; clear HO183; clear HO189; clear HB; clear HO186; have BK167 := n0_; have HO183 := n1_; have HO189 := n2_; have HB := n3_; have HO192 := n4_; clear n0_ n1_ n2_ n3_ n4_; clear ho hb hg hat))
  go_loopg [6, 7] kj14 (fun kq v6 v7 w' => ∃ (x6_3 : List Int) (x7_3 : Int), v7 = .int .i64 x7_3 ∧ Aside0 (notaryref36_Term.l0 kq a1 x6_3 x7_3 a0_0 a0_1 a0_2 l0_3 a0_4 a0_5 = some (r1, r2)) ∧ Aside0 (kq ≤ kj14) ∧ Aside0 (Kd.R (Kd.int .u8) 5 w' w.heap.size (fun _ => True) v6 x6_3) ∧ Aside0 (w'.heap[gb167]? = some (.cells #[.int .i64 a0_0, .int .i64 a0_1, .string a0_2, (.slice A0_3 l0_3.length c0_3), .int .i64 a0_4, .int .i64 a0_5] 25 (0, 0))) ∧ Aside0 (Below w.heap.size w w'))
  case atStart => exact ⟨(y190), (0), (by (rfl)), H', ⟨Nat.le_refl _⟩, ⟨by exact Kd.R_mono HO192.out (fun _ hk => trivial)⟩, ⟨by exact BK167.out⟩, ⟨HB.out⟩⟩
  clear H'
  try clear hcz36_0
  try clear hcz36_1
  try clear hcz36_2
  try clear hcz36_3
  try clear hcz36_4
  try clear hcz36_5
  try clear hfz36_0
  try clear hfz36_1
  try clear hfz36_2
  try clear hfz36_3
  try clear hfz36_4
  try clear hfz36_5
  obtain ⟨x6_3, x7_3, rfl, HA, HK3, HO_6, BK167, HB⟩ := hrel
  rcases gk with _ | k3
  · exact absurd HA.out (by simp [notaryref36_Term.l0])
  have H := HA.out
  clear HA
  simp only [notaryref36_Term.l0] at H
  by_cases c40 : x7_3 < (l0_3.length : Int)
  rotate_left
  · rw [if_neg c40] at H
    have c40b0 : decide (x7_3 < (l0_3.length : Int)) = false := decide_eq_false c40
    clear c40
    simp only [Option.some.injEq, Prod.mk.injEq] at H
    obtain ⟨rfl, rfl⟩ := H
    have hcz53_0 : wr.cell? ⟨gb167, 0, none⟩ = some (.int .i64 a0_0) := (blk_cell BK167.out 0).trans rfl
    have hcz53_1 : wr.cell? ⟨gb167, 1, none⟩ = some (.int .i64 a0_1) := (blk_cell BK167.out 1).trans rfl
    have hcz53_2 : wr.cell? ⟨gb167, 2, none⟩ = some (.string a0_2) := (blk_cell BK167.out 2).trans rfl
    have hcz53_3 : wr.cell? ⟨gb167, 3, none⟩ = some (.slice A0_3 l0_3.length c0_3) := (blk_cell BK167.out 3).trans rfl
    have hcz53_4 : wr.cell? ⟨gb167, 4, none⟩ = some (.int .i64 a0_4) := (blk_cell BK167.out 4).trans rfl
    have hcz53_5 : wr.cell? ⟨gb167, 5, none⟩ = some (.int .i64 a0_5) := (blk_cell BK167.out 5).trans rfl
    have hfz53_0 := blk_frozen BK167.out 0
    have hfz53_1 := blk_frozen BK167.out 1
    have hfz53_2 := blk_frozen BK167.out 2
    have hfz53_3 := blk_frozen BK167.out 3
    have hfz53_4 := blk_frozen BK167.out 4
    have hfz53_5 := blk_frozen BK167.out 5
    go_wp2
    go_ret2
    exact ⟨_, by (rfl), by exact HO_6.out, HB.out⟩
  rw [if_pos c40] at H
  have c40b0 : decide (x7_3 < (l0_3.length : Int)) = true := decide_eq_true c40
  clear c40
  by_cases c41 : 0 ≤ x7_3
  rotate_left
  · rw [if_neg c41] at H
    exact absurd H (by simp)
  rw [if_pos c41] at H
  have c41b0 : decide (0 ≤ x7_3) = true := decide_eq_true c41
  clear c41
  replace H := Option.bind_eq_some_iff.mp H
  obtain ⟨⟨t194, t197⟩, A420, H⟩ := H
  replace H : (if t197 = 0 then (if x6_3.length + t194.length < 140737488355328 then (notaryref36_Term.l0 k3 a1 (x6_3 ++ t194) (wrap64 (x7_3 + 1)) a0_0 a0_1 a0_2 l0_3 a0_4 a0_5) else (none)) else (some (([] : List Int), t197))) = some (r1, r2) := H
  have A42 := Aside0.mk A420
  clear A420
  by_cases c43 : t197 = 0
  rotate_left
  · rw [if_neg c43] at H
    have c43b0 : (t197 == 0) = false := beq_eq_false_iff_ne.mpr c43
    have c43b1 : (t197 != 0) = true := bne_iff_ne.mpr c43
    obtain ⟨y201, hy201⟩ : ∃ y_ : List Int, y_ = ([] : List Int) := ⟨_, rfl⟩
    replace H : (some (y201, t197)) = some (r1, r2) := by (rw [hy201]; with_reducible exact H)
    have Ny201 := Aside0.mk hy201
    clear hy201
    simp only [Option.some.injEq, Prod.mk.injEq] at H
    obtain ⟨rfl, rfl⟩ := H
    have hcz49_0 : wr.cell? ⟨gb167, 0, none⟩ = some (.int .i64 a0_0) := (blk_cell BK167.out 0).trans rfl
    have hcz49_1 : wr.cell? ⟨gb167, 1, none⟩ = some (.int .i64 a0_1) := (blk_cell BK167.out 1).trans rfl
    have hcz49_2 : wr.cell? ⟨gb167, 2, none⟩ = some (.string a0_2) := (blk_cell BK167.out 2).trans rfl
    have hcz49_3 : wr.cell? ⟨gb167, 3, none⟩ = some (.slice A0_3 l0_3.length c0_3) := (blk_cell BK167.out 3).trans rfl
    have hcz49_4 : wr.cell? ⟨gb167, 4, none⟩ = some (.int .i64 a0_4) := (blk_cell BK167.out 4).trans rfl
    have hcz49_5 : wr.cell? ⟨gb167, 5, none⟩ = some (.int .i64 a0_5) := (blk_cell BK167.out 5).trans rfl
    have hfz49_0 := blk_frozen BK167.out 0
    have hfz49_1 := blk_frozen BK167.out 1
    have hfz49_2 := blk_frozen BK167.out 2
    have hfz49_3 := blk_frozen BK167.out 3
    have hfz49_4 := blk_frozen BK167.out 4
    have hfz49_5 := blk_frozen BK167.out 5
    have p193 : 0 ≤ (x7_3 : Int) := of_decide_eq_true (by (with_reducible assumption))
    have q193 : x7_3 < (l0_3.length : Int) := of_decide_eq_true (by (with_reducible assumption))
    obtain ⟨ad193, A193_3, c193_3, e193, hx193_0, hx193_1, hx193_2, hx193_3, hx193_4, hx193_5, hl193_3, hi193_3⟩ := at_T25 HR0_3.out x7_3 p193 q193
    cases e193
    replace hx193_0 := pw_cell_below HB.out hx193_0
    replace hx193_1 := pw_cell_below HB.out hx193_1
    replace hx193_2 := pw_cell_below HB.out hx193_2
    replace hx193_3 := pw_cell_below HB.out hx193_3
    replace hx193_4 := pw_cell_below HB.out hx193_4
    replace hx193_5 := pw_cell_below HB.out hx193_5
    have HR193_3 := Aside0.mk hi193_3
    have HC193_3 := Aside0.mk hl193_3
    clear hi193_3 hl193_3
    replace p193 := eq_true p193
    replace q193 := eq_true q193
    go_wp2_with (first | ((with_reducible refine gate_callee (f := 11) rfl ?_); refine goesL_ (some 67) rfl rfl Try.func11 (by kernel_rfl) rfl #[.agg #[.int .i64 ((rd_T25 l0_3 x7_3).f0), .int .i64 ((rd_T25 l0_3 x7_3).f1), .string ((rd_T25 l0_3 x7_3).f2), .slice A193_3 ((rd_T25 l0_3 x7_3).f3).length c193_3, .int .i64 ((rd_T25 l0_3 x7_3).f4), .int .i64 ((rd_T25 l0_3 x7_3).f5)], .int .i64 (wrap64 (a1 + 1))] rfl (by (try simp only [List.map_toArray, List.map_cons, List.map_nil]); (rfl)) ?_; (with_reducible refine (ih k3 (by have := HJ6.out; have := HJ14.out; have := HK3.out; omega) ((rd_T25 l0_3 x7_3).f0) ((rd_T25 l0_3 x7_3).f1) ((rd_T25 l0_3 x7_3).f2) _ _ ((rd_T25 l0_3 x7_3).f3) ((rd_T25 l0_3 x7_3).f4) ((rd_T25 l0_3 x7_3).f5) (wrap64 (a1 + 1)) t194 t197 _ ?side1 ?side2 A42.out).mono ?_); (case side1 => exact Kd.C_below HR193_3.out HB.out); (case side2 => exact HC193_3.out); rintro e w50 ⟨v195, rfl, ho0, hb⟩; refine ⟨_, rfl, ?_⟩; have n0_ := Aside0.mk (Kd.R_elder' (by exact HO_6.out) (Kd.R_base ho0) hb); have n1_ := Aside0.mk (Kd.R_lower (Kd.R_new' ho0 (Kd.R_lt (by exact HO_6.out))) (below_size HB.out)); have n2_ := Aside0.mk (blk_below (g := gb167) (o := .cells #[.int .i64 a0_0, .int .i64 a0_1, .string a0_2, .slice (some ad193) l0_3.length c0_3, .int .i64 a0_4, .int .i64 a0_5] 25 (0, 0)) (by exact BK167.out) hb); have n3_ := Aside0.mk (below_step HB.out hb); clear HO_6; clear BK167; clear HB; have HO_6 := n0_; have HO196 := n1_; have BK167 := n2_; have HB := n3_; clear n0_ n1_ n2_ n3_; (try clear hb); (try clear ho0)) | ((with_reducible refine gate_dst (N := 72) rfl ?_); refine Kd.R_lit (Kd.int .u8) _ 5 ?hg (N := 72) ?hd (xs := ([] : List Int)) (inner := []) (ok := fun _ => True) (okp := fun _ => True) ?hr ?hp (fun _ hk => hk) trivial (Below.refl _ _) (Nat.le_refl _) (by simp) ?_; (case hd => rfl); (case hg => rfl); (case hr => (go_simp; done)); (case hp => exact (Reps.none _ _)); intro v202 w51 ho52 hb hg_ hnew_; clear hg_ hnew_; (rw [← Ny201.out] at ho52); have n0_ := Aside0.mk (Kd.R_elder' (by exact HO_6.out) (Kd.R_base ho52) hb); have n1_ := Aside0.mk (Kd.R_elder' (by exact HO196.out) (Kd.R_base ho52) hb); have n2_ := Aside0.mk (Kd.R_lower (Kd.R_new' (Kd.R_new' ho52 (Kd.R_lt (by exact HO_6.out))) (Kd.R_lt (by exact HO196.out))) (below_size HB.out)); have n3_ := Aside0.mk (blk_below (g := gb167) (o := .cells #[.int .i64 a0_0, .int .i64 a0_1, .string a0_2, .slice (some ad193) l0_3.length c0_3, .int .i64 a0_4, .int .i64 a0_5] 25 (0, 0)) (by exact BK167.out) hb); have n4_ := Aside0.mk (below_step HB.out hb); clear HO_6; clear HO196; clear BK167; clear HB; have HO_6 := n0_; have HO196 := n1_; have HO203 := n2_; have BK167 := n3_; have HB := n4_; clear n0_ n1_ n2_ n3_ n4_; clear hb ho52))
    go_ret2
    exact ⟨_, by (rfl), by exact Kd.R_mono HO203.out (fun _ hk => trivial), HB.out⟩
  rw [if_pos c43] at H
  have c43b0 : (t197 == 0) = true := beq_iff_eq.mpr c43
  have c43b1 : (t197 != 0) = false := bne_eq_false_iff_eq.mpr c43
  clear c43
  by_cases c44 : x6_3.length + t194.length < 140737488355328
  rotate_left
  · rw [if_neg c44] at H
    exact absurd H (by simp)
  rw [if_pos c44] at H
  have LMc44 := Aside0.mk c44
  clear c44
  obtain ⟨y198, hy198⟩ : ∃ y_ : List Int, y_ = (x6_3 ++ t194) := ⟨_, rfl⟩
  replace H : (notaryref36_Term.l0 k3 a1 y198 (wrap64 (x7_3 + 1)) a0_0 a0_1 a0_2 l0_3 a0_4 a0_5) = some (r1, r2) := by (rw [hy198]; with_reducible exact H)
  have Ny198 := Aside0.mk hy198
  clear hy198
  have H' := Aside0.mk H
  clear H
  have hcz45_0 : wr.cell? ⟨gb167, 0, none⟩ = some (.int .i64 a0_0) := (blk_cell BK167.out 0).trans rfl
  have hcz45_1 : wr.cell? ⟨gb167, 1, none⟩ = some (.int .i64 a0_1) := (blk_cell BK167.out 1).trans rfl
  have hcz45_2 : wr.cell? ⟨gb167, 2, none⟩ = some (.string a0_2) := (blk_cell BK167.out 2).trans rfl
  have hcz45_3 : wr.cell? ⟨gb167, 3, none⟩ = some (.slice A0_3 l0_3.length c0_3) := (blk_cell BK167.out 3).trans rfl
  have hcz45_4 : wr.cell? ⟨gb167, 4, none⟩ = some (.int .i64 a0_4) := (blk_cell BK167.out 4).trans rfl
  have hcz45_5 : wr.cell? ⟨gb167, 5, none⟩ = some (.int .i64 a0_5) := (blk_cell BK167.out 5).trans rfl
  have hfz45_0 := blk_frozen BK167.out 0
  have hfz45_1 := blk_frozen BK167.out 1
  have hfz45_2 := blk_frozen BK167.out 2
  have hfz45_3 := blk_frozen BK167.out 3
  have hfz45_4 := blk_frozen BK167.out 4
  have hfz45_5 := blk_frozen BK167.out 5
  have p193 : 0 ≤ (x7_3 : Int) := of_decide_eq_true (by (with_reducible assumption))
  have q193 : x7_3 < (l0_3.length : Int) := of_decide_eq_true (by (with_reducible assumption))
  obtain ⟨ad193, A193_3, c193_3, e193, hx193_0, hx193_1, hx193_2, hx193_3, hx193_4, hx193_5, hl193_3, hi193_3⟩ := at_T25 HR0_3.out x7_3 p193 q193
  cases e193
  replace hx193_0 := pw_cell_below HB.out hx193_0
  replace hx193_1 := pw_cell_below HB.out hx193_1
  replace hx193_2 := pw_cell_below HB.out hx193_2
  replace hx193_3 := pw_cell_below HB.out hx193_3
  replace hx193_4 := pw_cell_below HB.out hx193_4
  replace hx193_5 := pw_cell_below HB.out hx193_5
  have HR193_3 := Aside0.mk hi193_3
  have HC193_3 := Aside0.mk hl193_3
  clear hi193_3 hl193_3
  replace p193 := eq_true p193
  replace q193 := eq_true q193
  go_wp2_with (first | ((with_reducible refine gate_callee (f := 11) rfl ?_); refine goesL_ (some 67) rfl rfl Try.func11 (by kernel_rfl) rfl #[.agg #[.int .i64 ((rd_T25 l0_3 x7_3).f0), .int .i64 ((rd_T25 l0_3 x7_3).f1), .string ((rd_T25 l0_3 x7_3).f2), .slice A193_3 ((rd_T25 l0_3 x7_3).f3).length c193_3, .int .i64 ((rd_T25 l0_3 x7_3).f4), .int .i64 ((rd_T25 l0_3 x7_3).f5)], .int .i64 (wrap64 (a1 + 1))] rfl (by (try simp only [List.map_toArray, List.map_cons, List.map_nil]); (rfl)) ?_; (with_reducible refine (ih k3 (by have := HJ6.out; have := HJ14.out; have := HK3.out; omega) ((rd_T25 l0_3 x7_3).f0) ((rd_T25 l0_3 x7_3).f1) ((rd_T25 l0_3 x7_3).f2) _ _ ((rd_T25 l0_3 x7_3).f3) ((rd_T25 l0_3 x7_3).f4) ((rd_T25 l0_3 x7_3).f5) (wrap64 (a1 + 1)) t194 t197 _ ?side1 ?side2 A42.out).mono ?_); (case side1 => exact Kd.C_below HR193_3.out HB.out); (case side2 => exact HC193_3.out); rintro e w46 ⟨v195, rfl, ho0, hb⟩; refine ⟨_, rfl, ?_⟩; have n0_ := Aside0.mk (Kd.R_elder' (by exact HO_6.out) (Kd.R_base ho0) hb); have n1_ := Aside0.mk (Kd.R_lower (Kd.R_new' ho0 (Kd.R_lt (by exact HO_6.out))) (below_size HB.out)); have n2_ := Aside0.mk (blk_below (g := gb167) (o := .cells #[.int .i64 a0_0, .int .i64 a0_1, .string a0_2, .slice (some ad193) l0_3.length c0_3, .int .i64 a0_4, .int .i64 a0_5] 25 (0, 0)) (by exact BK167.out) hb); have n3_ := Aside0.mk (below_step HB.out hb); clear HO_6; clear BK167; clear HB; have HO_6 := n0_; have HO196 := n1_; have BK167 := n2_; have HB := n3_; clear n0_ n1_ n2_ n3_; (try clear hb); (try clear ho0); obtain ⟨Ao48, co48, eo48⟩ := Kd.R_slice HO196.out; subst eo48) | ((with_reducible refine gate_builtin (b := .append) (xs := #[.tmp 74, .tmp 75]) rfl ?_); at_builtin; refine Kd.R_append_rows (Kd.int .u8) (w0 := w) w.heap.size rfl (.tmp 74) (.tmp 75) 22 5 (.int .u8 0) 1 rfl Try.underlying22 info5 rfl (by decide) (by omega) u6 x6_3 t194 _ _ _ (fun k_ => some k_ ≠ (.slice Ao48 t194.length co48 : Value).ownBlock) (fun _ => False) rfl rfl ?aO ?aR (fun _ _ h => h) (fun _ h => h.elim) ?aF ?aB ?aS ?aL ?_; (case aR => repeat ((exact (Kd.R_reads' HO196.out).2.2))); (case aB => exact HB.out); (case aF => exact (fun k_ hk => Kd.fresh' (Kd.R_lt (by exact HO196.out)) k_ hk)); (case aO => exact (by exact Kd.R_mono HO_6.out (fun _ hk => hk.2))); (case aS => exact (below_size HB.out)); (case aL => have := LMc44.out; omega); intro v199 w47 ho hb hg hat; rw [← Ny198.out] at ho; have n0_ := Aside0.mk (blk_grown (g := gb167) (o := .cells #[.int .i64 a0_0, .int .i64 a0_1, .string a0_2, .slice (some ad193) l0_3.length c0_3, .int .i64 a0_4, .int .i64 a0_5] 25 (0, 0)) (by exact BK167.out) hg (Kd.R_ne HO_6.out BK167.out (by decide))); have n1_ := Aside0.mk (Kd.R_after (ok := (fun _ => True)) (by exact HO196.out) hg hat); have n2_ := Aside0.mk (hb); have n3_ := Aside0.mk (ho); clear BK167; clear HO196; clear HB; clear HO_6; have BK167 := n0_; have HO196 := n1_; have HB := n2_; have HO200 := n3_; clear n0_ n1_ n2_ n3_; clear ho hb hg hat))
  go_roundg k3
  case measure => have := HJ6.out; have := HJ14.out; have := HK3.out; omega
  case rel => exact ⟨(y198), (wrap64 (x7_3 + 1)), (by (rfl)), H', ⟨by have := HJ6.out; have := HJ14.out; have := HK3.out; omega⟩, ⟨by exact Kd.R_mono HO200.out (fun _ hk => trivial)⟩, ⟨by exact BK167.out⟩, ⟨HB.out⟩⟩
end Go.Proofs.Ytiamcmjdoobaeaa.PCd
