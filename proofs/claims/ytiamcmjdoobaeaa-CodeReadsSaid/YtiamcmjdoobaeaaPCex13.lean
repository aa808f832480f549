-- SLIM: a printed text of which the unused ways are cut off
-- PRINTED by print.py (a twelfth state) out of the translation. Not trusted: Lean checks it.
import Derived.Test.YtiamcmjdoobaeaaPCex0
import Derived.Test.YtiamcmjdoobaeaaPCex12
namespace Go.Proofs.Ytiamcmjdoobaeaa.PCe
open Go.RowKit Go.Proofs.YtiamcmjdoobaeaaW.PrintWords Go.Proofs.YtiamcmjdoobaeaaW.PrintLast Go.Proofs.YtiamcmjdoobaeaaW.PrintMore
attribute [local go_sem] max2_int min2_int max_two min_two max_three min_three max_four min_four   -- for this text's walks alone
set_option linter.unusedVariables false
set_option linter.unusedSimpArgs false

/-! ### notaryref36_ReadTerm: function 21 -/
mutual
def notaryref36_ReadTerm.j0 : Nat → List Int → Int → Int → Bool → Int → Int → ByteArray → Int → Int → Option (Int × Int × ByteArray × (List (S25)) × Int × Int × Int × Int)
  | 0, _, _, _, _, _, _, _, _, _ => none
  | k + 1, x0, x1, x2, x38, x163000, x163001, x163002, x163004, x163005 => if x38 = true then (some (0, 0, (⟨#[]⟩ : ByteArray), ([] : List (S25)), 0, 0, 0, 23)) else ((notaryref01_Get.f k x0 (wrap64 (x1 + 1))).bind fun bt163 => (if bt163.2.2 = 0 then ((notaryref01_Zag.f bt163.1).bind fun t166 => ((notaryref01_Get.f k x0 bt163.2.1).bind fun bt167 => (if bt167.2.2 = 0 then (notaryref36_ReadTerm.l0 k x0 bt167.2.1 x2 bt167.1 0 x163000 t166 x163002 ([] : List (S25)) x163004 x163005) else (some (0, 0, (⟨#[]⟩ : ByteArray), ([] : List (S25)), 0, 0, 0, bt167.2.2))))) else (some (0, 0, (⟨#[]⟩ : ByteArray), ([] : List (S25)), 0, 0, 0, bt163.2.2))))
def notaryref36_ReadTerm.l0 : Nat → List Int → Int → Int → Int → Int → Int → Int → ByteArray → List (S25) → Int → Int → Option (Int × Int × ByteArray × (List (S25)) × Int × Int × Int × Int)
  | 0, _, _, _, _, _, _, _, _, _, _, _ => none
  | k + 1, x0, x1, x2, x12, x13, x163000, x163001, x163002, x163003, x163004, x163005 => if x13 < x12 then ((notaryref36_ReadTerm.f k x0 x1 (wrap64 (x2 + 1))).bind fun bt170 => (if bt170.2.2.2.2.2.2.2 = 0 then (if x163003.length < 1954687338268 then (notaryref36_ReadTerm.l0 k x0 bt170.2.2.2.2.2.2.1 x2 x12 (IntKind.u64.wrap (x13 + 1)) x163000 x163001 x163002 (x163003 ++ [(⟨bt170.1, bt170.2.1, bt170.2.2.1, bt170.2.2.2.1, bt170.2.2.2.2.1, bt170.2.2.2.2.2.1⟩ : S25)]) x163004 x163005) else (none)) else (some (0, 0, (⟨#[]⟩ : ByteArray), ([] : List (S25)), 0, 0, 0, bt170.2.2.2.2.2.2.2)))) else (some (x163000, x163001, x163002, x163003, x163004, x163005, x1, 0))
def notaryref36_ReadTerm.f : Nat → List Int → Int → Int → Option (Int × Int × ByteArray × (List (S25)) × Int × Int × Int × Int)
  | 0, _, _, _ => none
  | k + 1, l0, a1, a2 => if a2 > 64 then (some (0, 0, (⟨#[]⟩ : ByteArray), ([] : List (S25)), 0, 0, 0, 7)) else (if a1 ≥ (l0.length : Int) then (some (0, 0, (⟨#[]⟩ : ByteArray), ([] : List (S25)), 0, 0, 0, 1)) else (if 0 ≤ a1 then (if a1 < (l0.length : Int) then (if (wrap64 (rd l0 a1)) < 1 then (notaryref36_ReadTerm.j0 k l0 a1 a2 true (wrap64 (rd l0 a1)) 0 (⟨#[]⟩ : ByteArray) 0 0) else (notaryref36_ReadTerm.j0 k l0 a1 a2 (decide ((wrap64 (rd l0 a1)) > 36)) (wrap64 (rd l0 a1)) 0 (⟨#[]⟩ : ByteArray) 0 0)) else (none)) else (none)))
end
set_option maxHeartbeats 8000000 in
set_option maxRecDepth 100000 in
theorem notaryref36_ReadTerm.calls (k : Nat) : ∀ (A0 : Option Addr) (c0 : Nat) (l0 : List Int) (a1 : Int) (a2 : Int) (r1 : Int) (r2 : Int) (r3 : ByteArray) (r4 : List (S25)) (r5 : Int) (r6 : Int) (r7 : Int) (r8 : Int) (w : World) (hr0 : Kd.C (Kd.int .u8) w A0 l0.length l0) (hc0 : l0.length ≤ c0) (h : notaryref36_ReadTerm.f k l0 a1 a2 = some (r1, r2, r3, r4, r5, r6, r7, r8)),
    Calls Try.prog 21 #[.slice A0 l0.length c0, .int .i64 a1, .int .i64 a2] w fun e w' => ∃ v3_ : Value, e = .returned (.tuple #[.agg #[.int .i64 r1, .int .i64 r2, .string r3, v3_, .int .i64 r5, .int .i64 r6], .int .i64 r7, .int .i64 r8]) ∧ Kd.R k25 25 w' w.heap.size (fun _ => True) v3_ r4 ∧ Below w.heap.size w w' := by
  induction k using Nat.strongRecOn with
  | _ k ih =>
  intro A0 c0 l0 a1 a2 r1 r2 r3 r4 r5 r6 r7 r8 w hr0 hc0 h
  cases k with
  | zero => exact absurd h (by simp [notaryref36_ReadTerm.f])
  | succ k =>
  simp only [notaryref36_ReadTerm.f] at h
  have hu25 := Try.underlying25
  have HR0 := Aside0.mk hr0
  have HC0 := Aside0.mk hc0
  clear hr0 hc0
  have HB := Aside0.mk (Below.refl w.heap.size w)
  have H : (if a2 > 64 then (some (0, 0, (⟨#[]⟩ : ByteArray), ([] : List (S25)), 0, 0, 0, 7)) else (if a1 ≥ (l0.length : Int) then (some (0, 0, (⟨#[]⟩ : ByteArray), ([] : List (S25)), 0, 0, 0, 1)) else (if 0 ≤ a1 then (if a1 < (l0.length : Int) then (if (wrap64 (rd l0 a1)) < 1 then (notaryref36_ReadTerm.j0 k l0 a1 a2 true (wrap64 (rd l0 a1)) 0 (⟨#[]⟩ : ByteArray) 0 0) else (notaryref36_ReadTerm.j0 k l0 a1 a2 (decide ((wrap64 (rd l0 a1)) > 36)) (wrap64 (rd l0 a1)) 0 (⟨#[]⟩ : ByteArray) 0 0)) else (none)) else (none)))) = some (r1, r2, r3, r4, r5, r6, r7, r8) := h
  clear h
  by_cases c4 : a2 > 64
  · rw [if_pos c4] at H
    have c4b0 : decide (64 < a2) = true := decide_eq_true c4
    clear c4
    simp only [Option.some.injEq, Prod.mk.injEq] at H
    obtain ⟨rfl, rfl, rfl, rfl, rfl, rfl, rfl, rfl⟩ := H
    go_enter Try.func21, Try.ntmps21
    go_wp2_with ((((with_reducible refine gate_dst (N := 6) rfl ?_); refine box_event ?hg (N := 6) ?hd (cs := #[.int .i64 0, .int .i64 0, .string (⟨#[]⟩ : ByteArray), .slice none 0 0, .int .i64 0, .int .i64 0]) (t := 25) ?hr ?_; (case hd => rfl); (case hg => rfl); (case hr => (go_simp; done)); intro gb160 hg w5 hbox hb; have n0_ := Aside0.mk (below_step HB.out hb); have n1_ := Aside0.mk (hbox); have n2_ := Aside0.mk ((by rw [hg]; exact (below_size HB.out) : w.heap.size ≤ gb160)); have n3_ := Aside0.mk ((by rw [hg]; exact (below_size HB.out) : w.heap.size ≤ gb160)); clear HB; have HB := n0_; have BK160 := n1_; have GW160 := n2_; have GE160 := n3_; clear n0_ n1_ n2_ n3_; clear hb hbox hg; have hcz6_0 : w5.cell? ⟨gb160, 0, none⟩ = some (.int .i64 0) := (blk_cell BK160.out 0).trans rfl; have hcz6_1 : w5.cell? ⟨gb160, 1, none⟩ = some (.int .i64 0) := (blk_cell BK160.out 1).trans rfl; have hcz6_2 : w5.cell? ⟨gb160, 2, none⟩ = some (.string (⟨#[]⟩ : ByteArray)) := (blk_cell BK160.out 2).trans rfl; have hcz6_3 : w5.cell? ⟨gb160, 3, none⟩ = some (.slice none 0 0) := (blk_cell BK160.out 3).trans rfl; have hcz6_4 : w5.cell? ⟨gb160, 4, none⟩ = some (.int .i64 0) := (blk_cell BK160.out 4).trans rfl; have hcz6_5 : w5.cell? ⟨gb160, 5, none⟩ = some (.int .i64 0) := (blk_cell BK160.out 5).trans rfl; have hfz6_0 := blk_frozen BK160.out 0; have hfz6_1 := blk_frozen BK160.out 1; have hfz6_2 := blk_frozen BK160.out 2; have hfz6_3 := blk_frozen BK160.out 3; have hfz6_4 := blk_frozen BK160.out 4; have hfz6_5 := blk_frozen BK160.out 5)))
    refine bodyPost_ret (results_ctt rfl _ _ gb160 25 #[.int .i64 0, .int .i64 0, .string (⟨#[]⟩ : ByteArray), .slice none 0 0, .int .i64 0, .int .i64 0] (0, 0) _ rfl (by refine blk_put (cs := #[.int .i64 0, .int .i64 0, .string (⟨#[]⟩ : ByteArray), .slice none 0 0, .int .i64 0, .int .i64 0]) ?_ 5 _ rfl; refine blk_put (cs := #[.int .i64 0, .int .i64 0, .string (⟨#[]⟩ : ByteArray), .slice none 0 0, .int .i64 0, .int .i64 0]) ?_ 4 _ rfl; refine blk_put (cs := #[.int .i64 0, .int .i64 0, .string (⟨#[]⟩ : ByteArray), .slice none 0 0, .int .i64 0, .int .i64 0]) ?_ 3 _ rfl; refine blk_put (cs := #[.int .i64 0, .int .i64 0, .string (⟨#[]⟩ : ByteArray), .slice none 0 0, .int .i64 0, .int .i64 0]) ?_ 2 _ rfl; refine blk_put (cs := #[.int .i64 0, .int .i64 0, .string (⟨#[]⟩ : ByteArray), .slice none 0 0, .int .i64 0, .int .i64 0]) ?_ 1 _ rfl; refine blk_put (cs := #[.int .i64 0, .int .i64 0, .string (⟨#[]⟩ : ByteArray), .slice none 0 0, .int .i64 0, .int .i64 0]) ?_ 0 _ rfl; exact BK160.out) Try.underlying25 rfl (by kernel_rfl)) rfl ?_
    exact ⟨_, by (rfl), by (exact Kd.R_nil _ _ _ _ _), by repeat (with_reducible first | exact HB.out | refine below_set ?_ GE160.out)⟩
  rw [if_neg c4] at H
  have c4b0 : decide (64 < a2) = false := decide_eq_false c4
  clear c4
  by_cases c7 : a1 ≥ (l0.length : Int)
  · rw [if_pos c7] at H
    have c7b0 : decide ((l0.length : Int) ≤ a1) = true := decide_eq_true c7
    clear c7
    simp only [Option.some.injEq, Prod.mk.injEq] at H
    obtain ⟨rfl, rfl, rfl, rfl, rfl, rfl, rfl, rfl⟩ := H
    go_enter Try.func21, Try.ntmps21
    go_wp2_with ((((with_reducible refine gate_dst (N := 6) rfl ?_); refine box_event ?hg (N := 6) ?hd (cs := #[.int .i64 0, .int .i64 0, .string (⟨#[]⟩ : ByteArray), .slice none 0 0, .int .i64 0, .int .i64 0]) (t := 25) ?hr ?_; (case hd => rfl); (case hg => rfl); (case hr => (go_simp; done)); intro gb160 hg w8 hbox hb; have n0_ := Aside0.mk (below_step HB.out hb); have n1_ := Aside0.mk (hbox); have n2_ := Aside0.mk ((by rw [hg]; exact (below_size HB.out) : w.heap.size ≤ gb160)); have n3_ := Aside0.mk ((by rw [hg]; exact (below_size HB.out) : w.heap.size ≤ gb160)); clear HB; have HB := n0_; have BK160 := n1_; have GW160 := n2_; have GE160 := n3_; clear n0_ n1_ n2_ n3_; clear hb hbox hg; have hcz9_0 : w8.cell? ⟨gb160, 0, none⟩ = some (.int .i64 0) := (blk_cell BK160.out 0).trans rfl; have hcz9_1 : w8.cell? ⟨gb160, 1, none⟩ = some (.int .i64 0) := (blk_cell BK160.out 1).trans rfl; have hcz9_2 : w8.cell? ⟨gb160, 2, none⟩ = some (.string (⟨#[]⟩ : ByteArray)) := (blk_cell BK160.out 2).trans rfl; have hcz9_3 : w8.cell? ⟨gb160, 3, none⟩ = some (.slice none 0 0) := (blk_cell BK160.out 3).trans rfl; have hcz9_4 : w8.cell? ⟨gb160, 4, none⟩ = some (.int .i64 0) := (blk_cell BK160.out 4).trans rfl; have hcz9_5 : w8.cell? ⟨gb160, 5, none⟩ = some (.int .i64 0) := (blk_cell BK160.out 5).trans rfl; have hfz9_0 := blk_frozen BK160.out 0; have hfz9_1 := blk_frozen BK160.out 1; have hfz9_2 := blk_frozen BK160.out 2; have hfz9_3 := blk_frozen BK160.out 3; have hfz9_4 := blk_frozen BK160.out 4; have hfz9_5 := blk_frozen BK160.out 5)))
    refine bodyPost_ret (results_ctt rfl _ _ gb160 25 #[.int .i64 0, .int .i64 0, .string (⟨#[]⟩ : ByteArray), .slice none 0 0, .int .i64 0, .int .i64 0] (0, 0) _ rfl (by refine blk_put (cs := #[.int .i64 0, .int .i64 0, .string (⟨#[]⟩ : ByteArray), .slice none 0 0, .int .i64 0, .int .i64 0]) ?_ 5 _ rfl; refine blk_put (cs := #[.int .i64 0, .int .i64 0, .string (⟨#[]⟩ : ByteArray), .slice none 0 0, .int .i64 0, .int .i64 0]) ?_ 4 _ rfl; refine blk_put (cs := #[.int .i64 0, .int .i64 0, .string (⟨#[]⟩ : ByteArray), .slice none 0 0, .int .i64 0, .int .i64 0]) ?_ 3 _ rfl; refine blk_put (cs := #[.int .i64 0, .int .i64 0, .string (⟨#[]⟩ : ByteArray), .slice none 0 0, .int .i64 0, .int .i64 0]) ?_ 2 _ rfl; refine blk_put (cs := #[.int .i64 0, .int .i64 0, .string (⟨#[]⟩ : ByteArray), .slice none 0 0, .int .i64 0, .int .i64 0]) ?_ 1 _ rfl; refine blk_put (cs := #[.int .i64 0, .int .i64 0, .string (⟨#[]⟩ : ByteArray), .slice none 0 0, .int .i64 0, .int .i64 0]) ?_ 0 _ rfl; exact BK160.out) Try.underlying25 rfl (by kernel_rfl)) rfl ?_
    exact ⟨_, by (rfl), by (exact Kd.R_nil _ _ _ _ _), by repeat (with_reducible first | exact HB.out | refine below_set ?_ GE160.out)⟩
  rw [if_neg c7] at H
  have c7b0 : decide ((l0.length : Int) ≤ a1) = false := decide_eq_false c7
  clear c7
  by_cases c10 : 0 ≤ a1
  rotate_left
  · rw [if_neg c10] at H
    exact absurd H (by simp)


  rw [if_pos c10] at H
  have c10b0 : decide (0 ≤ a1) = true := decide_eq_true c10
  clear c10
  by_cases c11 : a1 < (l0.length : Int)
  rotate_left
  · rw [if_neg c11] at H
    exact absurd H (by simp)
  rw [if_pos c11] at H
  have c11b0 : decide (a1 < (l0.length : Int)) = true := decide_eq_true c11
  clear c11
  have HC12 := Aside0.mk H
  clear H
  go_enter Try.func21, Try.ntmps21
  go_upto_region 6 with (first | ((with_reducible refine gate_dst (N := 6) rfl ?_); refine box_event ?hg (N := 6) ?hd (cs := #[.int .i64 0, .int .i64 0, .string (⟨#[]⟩ : ByteArray), .slice none 0 0, .int .i64 0, .int .i64 0]) (t := 25) ?hr ?_; (case hd => rfl); (case hg => rfl); (case hr => (go_simp; done)); intro gb160 hg w13 hbox hb; have n0_ := Aside0.mk (below_step HB.out hb); have n1_ := Aside0.mk (hbox); have n2_ := Aside0.mk ((by rw [hg]; exact (below_size HB.out) : w.heap.size ≤ gb160)); have n3_ := Aside0.mk ((by rw [hg]; exact (below_size HB.out) : w.heap.size ≤ gb160)); clear HB; have HB := n0_; have BK160 := n1_; have GW160 := n2_; have GE160 := n3_; clear n0_ n1_ n2_ n3_; clear hb hbox hg; have p161 : 0 ≤ (a1 : Int) := of_decide_eq_true (by (with_reducible assumption)); have q161 : a1 < (l0.length : Int) := of_decide_eq_true (by (with_reducible assumption)); obtain ⟨ad161, e161, hx161_0⟩ := Kd.at_int HR0.out a1 p161 q161; cases e161; replace hx161_0 := pw_cell_below HB.out hx161_0; replace p161 := eq_true p161; replace q161 := eq_true q161) | ((with_reducible refine gate_dst (N := 9) rfl ?_); refine box_event ?hg (N := 9) ?hd (cs := #[.int .i64 0, .int .i64 0, .string (⟨#[]⟩ : ByteArray), .slice none 0 0, .int .i64 0, .int .i64 0]) (t := 25) ?hr ?_; (case hd => rfl); (case hg => rfl); (case hr => (go_simp; done)); intro gb162 hg w14 hbox hb; have n0_ := Aside0.mk (blk_below (g := gb160) (o := .cells #[.int .i64 0, .int .i64 0, .string (⟨#[]⟩ : ByteArray), .slice none 0 0, .int .i64 0, .int .i64 0] 25 (0, 0)) (by exact BK160.out) hb); have n1_ := Aside0.mk (below_step HB.out hb); have n2_ := Aside0.mk (hbox); have n3_ := Aside0.mk ((by rw [hg]; exact (below_size HB.out) : w.heap.size ≤ gb162)); have n4_ := Aside0.mk ((by rw [hg]; exact (below_size HB.out) : w.heap.size ≤ gb162)); have n5_ := Aside0.mk ((by rw [hg]; exact Nat.ne_of_lt (blk_lt (g := gb160) (o := .cells #[.int .i64 0, .int .i64 0, .string (⟨#[]⟩ : ByteArray), .slice none 0 0, .int .i64 0, .int .i64 0] 25 (0, 0)) (by exact BK160.out)) : gb160 ≠ gb162)); have n6_ := Aside0.mk ((by rw [hg]; exact Nat.ne_of_gt (blk_lt (g := gb160) (o := .cells #[.int .i64 0, .int .i64 0, .string (⟨#[]⟩ : ByteArray), .slice none 0 0, .int .i64 0, .int .i64 0] 25 (0, 0)) (by exact BK160.out)) : gb162 ≠ gb160)); clear BK160; clear HB; have BK160 := n0_; have HB := n1_; have BK162 := n2_; have GW162 := n3_; have GE162 := n4_; have NB160_162 := n5_; have NB162_160 := n6_; clear n0_ n1_ n2_ n3_ n4_ n5_ n6_; clear hb hbox hg; have hnb15 := NB162_160.out; have hnc15 := NB160_162.out; have hcz16_0 : w14.cell? ⟨gb162, 0, none⟩ = some (.int .i64 0) := (blk_cell BK162.out 0).trans rfl; have hcz16_1 : w14.cell? ⟨gb162, 1, none⟩ = some (.int .i64 0) := (blk_cell BK162.out 1).trans rfl; have hcz16_2 : w14.cell? ⟨gb162, 2, none⟩ = some (.string (⟨#[]⟩ : ByteArray)) := (blk_cell BK162.out 2).trans rfl; have hcz16_3 : w14.cell? ⟨gb162, 3, none⟩ = some (.slice none 0 0) := (blk_cell BK162.out 3).trans rfl; have hcz16_4 : w14.cell? ⟨gb162, 4, none⟩ = some (.int .i64 0) := (blk_cell BK162.out 4).trans rfl; have hcz16_5 : w14.cell? ⟨gb162, 5, none⟩ = some (.int .i64 0) := (blk_cell BK162.out 5).trans rfl; have hfz16_0 := blk_frozen BK162.out 0; have hfz16_1 := blk_frozen BK162.out 1; have hfz16_2 := blk_frozen BK162.out 2; have hfz16_3 := blk_frozen BK162.out 3; have hfz16_4 := blk_frozen BK162.out 4; have hfz16_5 := blk_frozen BK162.out 5))
  (skip)
  go_cut [38] (fun v38 wc => ∃ (kq : Nat) (x38_11 : Bool), v38 = .bool x38_11 ∧ Aside0 (notaryref36_ReadTerm.j0 kq l0 a1 a2 x38_11 (wrap64 (rd l0 a1)) 0 (⟨#[]⟩ : ByteArray) 0 0 = some (r1, r2, r3, r4, r5, r6, r7, r8)) ∧ Aside0 (kq ≤ k) ∧ Aside0 (wc.heap[gb160]? = some (.cells #[.int .i64 0, .int .i64 0, .string (⟨#[]⟩ : ByteArray), (.slice none 0 0), .int .i64 0, .int .i64 0] 25 (0, 0))) ∧ Aside0 (wc.heap[gb162]? = some (.cells #[.int .i64 (wrap64 (rd l0 a1)), .int .i64 0, .string (⟨#[]⟩ : ByteArray), (.slice none 0 0), .int .i64 0, .int .i64 0] 25 (0, 0))) ∧ Aside0 (Below w.heap.size w wc))
  case first =>
    have H := HC12.out
    clear HC12
    by_cases c17 : (wrap64 (rd l0 a1)) < 1
    · rw [if_pos c17] at H
      have c17b0 : decide ((wrap64 (rd l0 a1)) < 1) = true := decide_eq_true c17
      clear c17
      (skip)
      have H' := Aside0.mk H
      clear H
      have hnb18 := NB162_160.out
      have hnc18 := NB160_162.out
      have hcz19_0 : w14.cell? ⟨gb162, 0, none⟩ = some (.int .i64 0) := (blk_cell BK162.out 0).trans rfl
      have hcz19_1 : w14.cell? ⟨gb162, 1, none⟩ = some (.int .i64 0) := (blk_cell BK162.out 1).trans rfl
      have hcz19_2 : w14.cell? ⟨gb162, 2, none⟩ = some (.string (⟨#[]⟩ : ByteArray)) := (blk_cell BK162.out 2).trans rfl
      have hcz19_3 : w14.cell? ⟨gb162, 3, none⟩ = some (.slice none 0 0) := (blk_cell BK162.out 3).trans rfl
      have hcz19_4 : w14.cell? ⟨gb162, 4, none⟩ = some (.int .i64 0) := (blk_cell BK162.out 4).trans rfl
      have hcz19_5 : w14.cell? ⟨gb162, 5, none⟩ = some (.int .i64 0) := (blk_cell BK162.out 5).trans rfl
      have hfz19_0 := blk_frozen BK162.out 0
      have hfz19_1 := blk_frozen BK162.out 1
      have hfz19_2 := blk_frozen BK162.out 2
      have hfz19_3 := blk_frozen BK162.out 3
      have hfz19_4 := blk_frozen BK162.out 4
      have hfz19_5 := blk_frozen BK162.out 5
      go_wp2
      go_meet
      case rel => exact ⟨_, (true), (by (rfl)), H', ⟨by (omega)⟩, ⟨by refine blk_far ?_ NB160_162.out _; refine blk_far ?_ NB160_162.out _; refine blk_far ?_ NB160_162.out _; refine blk_far ?_ NB160_162.out _; refine blk_far ?_ NB160_162.out _; refine blk_far ?_ NB160_162.out _; exact BK160.out⟩, ⟨by refine blk_put (cs := #[.int .i64 (wrap64 (rd l0 a1)), .int .i64 0, .string (⟨#[]⟩ : ByteArray), .slice none 0 0, .int .i64 0, .int .i64 0]) ?_ 5 _ rfl; refine blk_put (cs := #[.int .i64 (wrap64 (rd l0 a1)), .int .i64 0, .string (⟨#[]⟩ : ByteArray), .slice none 0 0, .int .i64 0, .int .i64 0]) ?_ 4 _ rfl; refine blk_put (cs := #[.int .i64 (wrap64 (rd l0 a1)), .int .i64 0, .string (⟨#[]⟩ : ByteArray), .slice none 0 0, .int .i64 0, .int .i64 0]) ?_ 3 _ rfl; refine blk_put (cs := #[.int .i64 (wrap64 (rd l0 a1)), .int .i64 0, .string (⟨#[]⟩ : ByteArray), .slice none 0 0, .int .i64 0, .int .i64 0]) ?_ 2 _ rfl; refine blk_put (cs := #[.int .i64 (wrap64 (rd l0 a1)), .int .i64 0, .string (⟨#[]⟩ : ByteArray), .slice none 0 0, .int .i64 0, .int .i64 0]) ?_ 1 _ rfl; refine blk_put (cs := #[.int .i64 0, .int .i64 0, .string (⟨#[]⟩ : ByteArray), .slice none 0 0, .int .i64 0, .int .i64 0]) ?_ 0 _ rfl; exact BK162.out⟩, ⟨by repeat (with_reducible first | exact HB.out | refine below_set ?_ GE162.out)⟩⟩
    rw [if_neg c17] at H
    have c17b0 : decide ((wrap64 (rd l0 a1)) < 1) = false := decide_eq_false c17
    clear c17
    (skip)
    have H' := Aside0.mk H
    clear H
    have hnb20 := NB162_160.out
    have hnc20 := NB160_162.out
    have hcz21_0 : w14.cell? ⟨gb162, 0, none⟩ = some (.int .i64 0) := (blk_cell BK162.out 0).trans rfl
    have hcz21_1 : w14.cell? ⟨gb162, 1, none⟩ = some (.int .i64 0) := (blk_cell BK162.out 1).trans rfl
    have hcz21_2 : w14.cell? ⟨gb162, 2, none⟩ = some (.string (⟨#[]⟩ : ByteArray)) := (blk_cell BK162.out 2).trans rfl
    have hcz21_3 : w14.cell? ⟨gb162, 3, none⟩ = some (.slice none 0 0) := (blk_cell BK162.out 3).trans rfl
    have hcz21_4 : w14.cell? ⟨gb162, 4, none⟩ = some (.int .i64 0) := (blk_cell BK162.out 4).trans rfl
    have hcz21_5 : w14.cell? ⟨gb162, 5, none⟩ = some (.int .i64 0) := (blk_cell BK162.out 5).trans rfl
    have hfz21_0 := blk_frozen BK162.out 0
    have hfz21_1 := blk_frozen BK162.out 1
    have hfz21_2 := blk_frozen BK162.out 2
    have hfz21_3 := blk_frozen BK162.out 3
    have hfz21_4 := blk_frozen BK162.out 4
    have hfz21_5 := blk_frozen BK162.out 5
    go_wp2
    go_meet
    case rel => exact ⟨_, (decide ((wrap64 (rd l0 a1)) > 36)), (by (rfl)), H', ⟨by (omega)⟩, ⟨by refine blk_far ?_ NB160_162.out _; refine blk_far ?_ NB160_162.out _; refine blk_far ?_ NB160_162.out _; refine blk_far ?_ NB160_162.out _; refine blk_far ?_ NB160_162.out _; refine blk_far ?_ NB160_162.out _; exact BK160.out⟩, ⟨by refine blk_put (cs := #[.int .i64 (wrap64 (rd l0 a1)), .int .i64 0, .string (⟨#[]⟩ : ByteArray), .slice none 0 0, .int .i64 0, .int .i64 0]) ?_ 5 _ rfl; refine blk_put (cs := #[.int .i64 (wrap64 (rd l0 a1)), .int .i64 0, .string (⟨#[]⟩ : ByteArray), .slice none 0 0, .int .i64 0, .int .i64 0]) ?_ 4 _ rfl; refine blk_put (cs := #[.int .i64 (wrap64 (rd l0 a1)), .int .i64 0, .string (⟨#[]⟩ : ByteArray), .slice none 0 0, .int .i64 0, .int .i64 0]) ?_ 3 _ rfl; refine blk_put (cs := #[.int .i64 (wrap64 (rd l0 a1)), .int .i64 0, .string (⟨#[]⟩ : ByteArray), .slice none 0 0, .int .i64 0, .int .i64 0]) ?_ 2 _ rfl; refine blk_put (cs := #[.int .i64 (wrap64 (rd l0 a1)), .int .i64 0, .string (⟨#[]⟩ : ByteArray), .slice none 0 0, .int .i64 0, .int .i64 0]) ?_ 1 _ rfl; refine blk_put (cs := #[.int .i64 0, .int .i64 0, .string (⟨#[]⟩ : ByteArray), .slice none 0 0, .int .i64 0, .int .i64 0]) ?_ 0 _ rfl; exact BK162.out⟩, ⟨by repeat (with_reducible first | exact HB.out | refine below_set ?_ GE162.out)⟩⟩
  clear HC12
  try clear c4b0
  try clear c7b0
  try clear c10b0
  try clear c11b0
  try clear hcz16_0
  try clear hcz16_1
  try clear hcz16_2
  try clear hcz16_3
  try clear hcz16_4
  try clear hcz16_5
  try clear hfz16_0
  try clear hfz16_1
  try clear hfz16_2
  try clear hfz16_3
  try clear hfz16_4
  try clear hfz16_5
  try clear hx161_0
  try clear p161
  try clear q161
  obtain ⟨kq, x38_11, rfl, HA, HJ11, BK160, BK162, HB⟩ := hcut
  rcases kq with _ | kj11
  · exact absurd HA.out (by simp [notaryref36_ReadTerm.j0])
  have H := HA.out
  clear HA
  simp only [notaryref36_ReadTerm.j0] at H
  by_cases c22 : x38_11 = true
  · subst c22
    have H1 : (some (0, 0, (⟨#[]⟩ : ByteArray), ([] : List (S25)), 0, 0, 0, 23)) = some (r1, r2, r3, r4, r5, r6, r7, r8) := by rw [if_pos rfl] at H; exact H
    clear H
    have H := H1
    clear H1
    simp only [Option.some.injEq, Prod.mk.injEq] at H
    obtain ⟨rfl, rfl, rfl, rfl, rfl, rfl, rfl, rfl⟩ := H
    have hnb23 := NB160_162.out
    have hnc23 := NB162_160.out
    have hcz24_0 : wc.cell? ⟨gb160, 0, none⟩ = some (.int .i64 0) := (blk_cell BK160.out 0).trans rfl
    have hcz24_1 : wc.cell? ⟨gb160, 1, none⟩ = some (.int .i64 0) := (blk_cell BK160.out 1).trans rfl
    have hcz24_2 : wc.cell? ⟨gb160, 2, none⟩ = some (.string (⟨#[]⟩ : ByteArray)) := (blk_cell BK160.out 2).trans rfl
    have hcz24_3 : wc.cell? ⟨gb160, 3, none⟩ = some (.slice none 0 0) := (blk_cell BK160.out 3).trans rfl
    have hcz24_4 : wc.cell? ⟨gb160, 4, none⟩ = some (.int .i64 0) := (blk_cell BK160.out 4).trans rfl
    have hcz24_5 : wc.cell? ⟨gb160, 5, none⟩ = some (.int .i64 0) := (blk_cell BK160.out 5).trans rfl
    have hfz24_0 := blk_frozen BK160.out 0
    have hfz24_1 := blk_frozen BK160.out 1
    have hfz24_2 := blk_frozen BK160.out 2
    have hfz24_3 := blk_frozen BK160.out 3
    have hfz24_4 := blk_frozen BK160.out 4
    have hfz24_5 := blk_frozen BK160.out 5
    go_wp2
    refine bodyPost_ret (results_ctt rfl _ _ gb160 25 #[.int .i64 0, .int .i64 0, .string (⟨#[]⟩ : ByteArray), .slice none 0 0, .int .i64 0, .int .i64 0] (0, 0) _ rfl (by refine blk_put (cs := #[.int .i64 0, .int .i64 0, .string (⟨#[]⟩ : ByteArray), .slice none 0 0, .int .i64 0, .int .i64 0]) ?_ 5 _ rfl; refine blk_put (cs := #[.int .i64 0, .int .i64 0, .string (⟨#[]⟩ : ByteArray), .slice none 0 0, .int .i64 0, .int .i64 0]) ?_ 4 _ rfl; refine blk_put (cs := #[.int .i64 0, .int .i64 0, .string (⟨#[]⟩ : ByteArray), .slice none 0 0, .int .i64 0, .int .i64 0]) ?_ 3 _ rfl; refine blk_put (cs := #[.int .i64 0, .int .i64 0, .string (⟨#[]⟩ : ByteArray), .slice none 0 0, .int .i64 0, .int .i64 0]) ?_ 2 _ rfl; refine blk_put (cs := #[.int .i64 0, .int .i64 0, .string (⟨#[]⟩ : ByteArray), .slice none 0 0, .int .i64 0, .int .i64 0]) ?_ 1 _ rfl; refine blk_put (cs := #[.int .i64 0, .int .i64 0, .string (⟨#[]⟩ : ByteArray), .slice none 0 0, .int .i64 0, .int .i64 0]) ?_ 0 _ rfl; exact BK160.out) Try.underlying25 rfl (by kernel_rfl)) rfl ?_
    exact ⟨_, by (rfl), by (exact Kd.R_nil _ _ _ _ _), by repeat (with_reducible first | exact HB.out | refine below_set ?_ GE160.out)⟩
  replace c22 := Bool.eq_false_iff.mpr c22
  subst c22
  have H1 : ((notaryref01_Get.f kj11 l0 (wrap64 (a1 + 1))).bind fun bt163 => (if bt163.2.2 = 0 then ((notaryref01_Zag.f bt163.1).bind fun t166 => ((notaryref01_Get.f kj11 l0 bt163.2.1).bind fun bt167 => (if bt167.2.2 = 0 then (notaryref36_ReadTerm.l0 kj11 l0 bt167.2.1 a2 bt167.1 0 (wrap64 (rd l0 a1)) t166 (⟨#[]⟩ : ByteArray) ([] : List (S25)) 0 0) else (some (0, 0, (⟨#[]⟩ : ByteArray), ([] : List (S25)), 0, 0, 0, bt167.2.2))))) else (some (0, 0, (⟨#[]⟩ : ByteArray), ([] : List (S25)), 0, 0, 0, bt163.2.2)))) = some (r1, r2, r3, r4, r5, r6, r7, r8) := by rw [if_neg (show ¬ (false = true) by decide)] at H; exact H
  clear H
  have H := H1
  clear H1
  replace H := Option.bind_eq_some_iff.mp H
  obtain ⟨⟨t163, t164, t165⟩, A250, H⟩ := H
  replace H : (if t165 = 0 then ((notaryref01_Zag.f t163).bind fun t166 => ((notaryref01_Get.f kj11 l0 t164).bind fun bt167 => (if bt167.2.2 = 0 then (notaryref36_ReadTerm.l0 kj11 l0 bt167.2.1 a2 bt167.1 0 (wrap64 (rd l0 a1)) t166 (⟨#[]⟩ : ByteArray) ([] : List (S25)) 0 0) else (some (0, 0, (⟨#[]⟩ : ByteArray), ([] : List (S25)), 0, 0, 0, bt167.2.2))))) else (some (0, 0, (⟨#[]⟩ : ByteArray), ([] : List (S25)), 0, 0, 0, t165))) = some (r1, r2, r3, r4, r5, r6, r7, r8) := H
  have A25 := Aside0.mk A250
  clear A250
  by_cases c26 : t165 = 0
  rotate_left
  · rw [if_neg c26] at H
    have c26b0 : (t165 == 0) = false := beq_eq_false_iff_ne.mpr c26
    have c26b1 : (t165 != 0) = true := bne_iff_ne.mpr c26
    simp only [Option.some.injEq, Prod.mk.injEq] at H
    obtain ⟨rfl, rfl, rfl, rfl, rfl, rfl, rfl, rfl⟩ := H
    go_wp2_with ((((with_reducible refine gate_callee (f := 46) rfl ?_); refine goesL_ (some 44) rfl rfl Try.func46 (by kernel_rfl) rfl #[.slice (some ad161) l0.length c0, .int .i64 (wrap64 (a1 + 1))] rfl (by (try simp only [List.map_toArray, List.map_cons, List.map_nil]); (rfl)) ?_; (with_reducible refine (notaryref01_Get.calls kj11 _ _ l0 (wrap64 (a1 + 1)) t163 t164 t165 _ ?side1 ?side2 A25.out).mono ?_); (case side1 => exact Kd.C_below HR0.out HB.out); (case side2 => exact HC0.out); rintro e w' ⟨rfl, ⟨nd, rfl⟩⟩; refine ⟨_, rfl, ?_⟩; (try (rw [drewN_self wc]; generalize hq_ : World.drewN wc _ = wc; have n0_ : Aside0 (wc.heap[gb160]? = some (.cells #[.int .i64 0, .int .i64 0, .string (⟨#[]⟩ : ByteArray), .slice none 0 0, .int .i64 0, .int .i64 0] 25 (0, 0))) := ⟨by rw [← hq_]; exact (by (with_reducible repeat (refine blk_drewN ?_ _)); exact BK160.out)⟩; have n1_ : Aside0 (wc.heap[gb162]? = some (.cells #[.int .i64 (wrap64 (rd l0 a1)), .int .i64 0, .string (⟨#[]⟩ : ByteArray), .slice none 0 0, .int .i64 0, .int .i64 0] 25 (0, 0))) := ⟨by rw [← hq_]; exact (by (with_reducible repeat (refine blk_drewN ?_ _)); exact BK162.out)⟩; have n2_ : Aside0 (Below w.heap.size w wc) := ⟨by rw [← hq_]; exact (by repeat (with_reducible first | exact HB.out | apply pw_below_drewN))⟩; clear BK160 BK162 HB hq_; have BK160 := n0_; have BK162 := n1_; have HB := n2_; clear n0_ n1_ n2_)); have hnb64 := NB160_162.out; have hnc64 := NB162_160.out; have hcz65_0 : wc.cell? ⟨gb160, 0, none⟩ = some (.int .i64 0) := (blk_cell BK160.out 0).trans rfl; have hcz65_1 : wc.cell? ⟨gb160, 1, none⟩ = some (.int .i64 0) := (blk_cell BK160.out 1).trans rfl; have hcz65_2 : wc.cell? ⟨gb160, 2, none⟩ = some (.string (⟨#[]⟩ : ByteArray)) := (blk_cell BK160.out 2).trans rfl; have hcz65_3 : wc.cell? ⟨gb160, 3, none⟩ = some (.slice none 0 0) := (blk_cell BK160.out 3).trans rfl; have hcz65_4 : wc.cell? ⟨gb160, 4, none⟩ = some (.int .i64 0) := (blk_cell BK160.out 4).trans rfl; have hcz65_5 : wc.cell? ⟨gb160, 5, none⟩ = some (.int .i64 0) := (blk_cell BK160.out 5).trans rfl; have hfz65_0 := blk_frozen BK160.out 0; have hfz65_1 := blk_frozen BK160.out 1; have hfz65_2 := blk_frozen BK160.out 2; have hfz65_3 := blk_frozen BK160.out 3; have hfz65_4 := blk_frozen BK160.out 4; have hfz65_5 := blk_frozen BK160.out 5)))
    refine bodyPost_ret (results_ctt rfl _ _ gb160 25 #[.int .i64 0, .int .i64 0, .string (⟨#[]⟩ : ByteArray), .slice none 0 0, .int .i64 0, .int .i64 0] (0, 0) _ rfl (by refine blk_put (cs := #[.int .i64 0, .int .i64 0, .string (⟨#[]⟩ : ByteArray), .slice none 0 0, .int .i64 0, .int .i64 0]) ?_ 5 _ rfl; refine blk_put (cs := #[.int .i64 0, .int .i64 0, .string (⟨#[]⟩ : ByteArray), .slice none 0 0, .int .i64 0, .int .i64 0]) ?_ 4 _ rfl; refine blk_put (cs := #[.int .i64 0, .int .i64 0, .string (⟨#[]⟩ : ByteArray), .slice none 0 0, .int .i64 0, .int .i64 0]) ?_ 3 _ rfl; refine blk_put (cs := #[.int .i64 0, .int .i64 0, .string (⟨#[]⟩ : ByteArray), .slice none 0 0, .int .i64 0, .int .i64 0]) ?_ 2 _ rfl; refine blk_put (cs := #[.int .i64 0, .int .i64 0, .string (⟨#[]⟩ : ByteArray), .slice none 0 0, .int .i64 0, .int .i64 0]) ?_ 1 _ rfl; refine blk_put (cs := #[.int .i64 0, .int .i64 0, .string (⟨#[]⟩ : ByteArray), .slice none 0 0, .int .i64 0, .int .i64 0]) ?_ 0 _ rfl; exact BK160.out) Try.underlying25 rfl (by kernel_rfl)) rfl ?_
    exact ⟨_, by (rfl), by (exact Kd.R_nil _ _ _ _ _), by repeat (with_reducible first | exact HB.out | refine below_set ?_ GE160.out)⟩
  rw [if_pos c26] at H
  have c26b0 : (t165 == 0) = true := beq_iff_eq.mpr c26
  have c26b1 : (t165 != 0) = false := bne_eq_false_iff_eq.mpr c26
  clear c26
  replace H := Option.bind_eq_some_iff.mp H
  obtain ⟨t166, A270, H⟩ := H
  replace H : ((notaryref01_Get.f kj11 l0 t164).bind fun bt167 => (if bt167.2.2 = 0 then (notaryref36_ReadTerm.l0 kj11 l0 bt167.2.1 a2 bt167.1 0 (wrap64 (rd l0 a1)) t166 (⟨#[]⟩ : ByteArray) ([] : List (S25)) 0 0) else (some (0, 0, (⟨#[]⟩ : ByteArray), ([] : List (S25)), 0, 0, 0, bt167.2.2)))) = some (r1, r2, r3, r4, r5, r6, r7, r8) := H
  have A27 := Aside0.mk A270
  clear A270
  replace H := Option.bind_eq_some_iff.mp H
  obtain ⟨⟨t167, t168, t169⟩, A280, H⟩ := H
  replace H : (if t169 = 0 then (notaryref36_ReadTerm.l0 kj11 l0 t168 a2 t167 0 (wrap64 (rd l0 a1)) t166 (⟨#[]⟩ : ByteArray) ([] : List (S25)) 0 0) else (some (0, 0, (⟨#[]⟩ : ByteArray), ([] : List (S25)), 0, 0, 0, t169))) = some (r1, r2, r3, r4, r5, r6, r7, r8) := H
  have A28 := Aside0.mk A280
  clear A280
  by_cases c29 : t169 = 0
  rotate_left
  · rw [if_neg c29] at H
    have c29b0 : (t169 == 0) = false := beq_eq_false_iff_ne.mpr c29
    have c29b1 : (t169 != 0) = true := bne_iff_ne.mpr c29
    simp only [Option.some.injEq, Prod.mk.injEq] at H
    obtain ⟨rfl, rfl, rfl, rfl, rfl, rfl, rfl, rfl⟩ := H
    go_wp2_with (first | ((with_reducible refine gate_callee (f := 46) rfl ?_); refine goesL_ (some 44) rfl rfl Try.func46 (by kernel_rfl) rfl #[.slice (some ad161) l0.length c0, .int .i64 (wrap64 (a1 + 1))] rfl (by (try simp only [List.map_toArray, List.map_cons, List.map_nil]); (rfl)) ?_; (with_reducible refine (notaryref01_Get.calls kj11 _ _ l0 (wrap64 (a1 + 1)) t163 t164 t165 _ ?side1 ?side2 A25.out).mono ?_); (case side1 => exact Kd.C_below HR0.out HB.out); (case side2 => exact HC0.out); rintro e w' ⟨rfl, ⟨nd, rfl⟩⟩; refine ⟨_, rfl, ?_⟩; (try (rw [drewN_self wc]; generalize hq_ : World.drewN wc _ = wc; have n0_ : Aside0 (wc.heap[gb160]? = some (.cells #[.int .i64 0, .int .i64 0, .string (⟨#[]⟩ : ByteArray), .slice none 0 0, .int .i64 0, .int .i64 0] 25 (0, 0))) := ⟨by rw [← hq_]; exact (by (with_reducible repeat (refine blk_drewN ?_ _)); exact BK160.out)⟩; have n1_ : Aside0 (wc.heap[gb162]? = some (.cells #[.int .i64 (wrap64 (rd l0 a1)), .int .i64 0, .string (⟨#[]⟩ : ByteArray), .slice none 0 0, .int .i64 0, .int .i64 0] 25 (0, 0))) := ⟨by rw [← hq_]; exact (by (with_reducible repeat (refine blk_drewN ?_ _)); exact BK162.out)⟩; have n2_ : Aside0 (Below w.heap.size w wc) := ⟨by rw [← hq_]; exact (by repeat (with_reducible first | exact HB.out | apply pw_below_drewN))⟩; clear BK160 BK162 HB hq_; have BK160 := n0_; have BK162 := n1_; have HB := n2_; clear n0_ n1_ n2_))) | ((with_reducible refine gate_callee (f := 47) rfl ?_); refine goesL_ (some 53) rfl rfl Try.func47 (by kernel_rfl) rfl #[.int .u64 t163] rfl (by (try simp only [List.map_toArray, List.map_cons, List.map_nil]); (rfl)) ?_; (with_reducible refine (notaryref01_Zag.calls t163 t166 _ A27.out).mono ?_); rintro e w' ⟨rfl, ⟨nd, rfl⟩⟩; refine ⟨_, rfl, ?_⟩; (try (rw [drewN_self wc]; generalize hq_ : World.drewN wc _ = wc; have n0_ : Aside0 (wc.heap[gb160]? = some (.cells #[.int .i64 0, .int .i64 0, .string (⟨#[]⟩ : ByteArray), .slice none 0 0, .int .i64 0, .int .i64 0] 25 (0, 0))) := ⟨by rw [← hq_]; exact (by (with_reducible repeat (refine blk_drewN ?_ _)); exact BK160.out)⟩; have n1_ : Aside0 (wc.heap[gb162]? = some (.cells #[.int .i64 (wrap64 (rd l0 a1)), .int .i64 0, .string (⟨#[]⟩ : ByteArray), .slice none 0 0, .int .i64 0, .int .i64 0] 25 (0, 0))) := ⟨by rw [← hq_]; exact (by (with_reducible repeat (refine blk_drewN ?_ _)); exact BK162.out)⟩; have n2_ : Aside0 (Below w.heap.size w wc) := ⟨by rw [← hq_]; exact (by repeat (with_reducible first | exact HB.out | apply pw_below_drewN))⟩; clear BK160 BK162 HB hq_; have BK160 := n0_; have BK162 := n1_; have HB := n2_; clear n0_ n1_ n2_)); have hnb61 := NB162_160.out; have hnc61 := NB160_162.out; have hcz62_0 : wc.cell? ⟨gb162, 0, none⟩ = some (.int .i64 (wrap64 (rd l0 a1))) := (blk_cell BK162.out 0).trans rfl; have hcz62_1 : wc.cell? ⟨gb162, 1, none⟩ = some (.int .i64 0) := (blk_cell BK162.out 1).trans rfl; have hcz62_2 : wc.cell? ⟨gb162, 2, none⟩ = some (.string (⟨#[]⟩ : ByteArray)) := (blk_cell BK162.out 2).trans rfl; have hcz62_3 : wc.cell? ⟨gb162, 3, none⟩ = some (.slice none 0 0) := (blk_cell BK162.out 3).trans rfl; have hcz62_4 : wc.cell? ⟨gb162, 4, none⟩ = some (.int .i64 0) := (blk_cell BK162.out 4).trans rfl; have hcz62_5 : wc.cell? ⟨gb162, 5, none⟩ = some (.int .i64 0) := (blk_cell BK162.out 5).trans rfl; have hfz62_0 := blk_frozen BK162.out 0; have hfz62_1 := blk_frozen BK162.out 1; have hfz62_2 := blk_frozen BK162.out 2; have hfz62_3 := blk_frozen BK162.out 3; have hfz62_4 := blk_frozen BK162.out 4; have hfz62_5 := blk_frozen BK162.out 5) | ((with_reducible refine gate_callee (f := 46) rfl ?_); refine goesL_ (some 58) rfl rfl Try.func46 (by kernel_rfl) rfl #[.slice (some ad161) l0.length c0, .int .i64 t164] rfl (by (try simp only [List.map_toArray, List.map_cons, List.map_nil]); (rfl)) ?_; (with_reducible refine (notaryref01_Get.calls kj11 _ _ l0 t164 t167 t168 t169 _ ?side1 ?side2 A28.out).mono ?_); (case side1 => exact Kd.C_below HR0.out (by repeat (with_reducible first | exact HB.out | refine below_set ?_ GE162.out))); (case side2 => exact HC0.out); rintro e w' ⟨rfl, ⟨nd, rfl⟩⟩; refine ⟨_, rfl, ?_⟩; have hcz63_0 : wc.cell? ⟨gb160, 0, none⟩ = some (.int .i64 0) := (blk_cell BK160.out 0).trans rfl; have hcz63_1 : wc.cell? ⟨gb160, 1, none⟩ = some (.int .i64 0) := (blk_cell BK160.out 1).trans rfl; have hcz63_2 : wc.cell? ⟨gb160, 2, none⟩ = some (.string (⟨#[]⟩ : ByteArray)) := (blk_cell BK160.out 2).trans rfl; have hcz63_3 : wc.cell? ⟨gb160, 3, none⟩ = some (.slice none 0 0) := (blk_cell BK160.out 3).trans rfl; have hcz63_4 : wc.cell? ⟨gb160, 4, none⟩ = some (.int .i64 0) := (blk_cell BK160.out 4).trans rfl; have hcz63_5 : wc.cell? ⟨gb160, 5, none⟩ = some (.int .i64 0) := (blk_cell BK160.out 5).trans rfl; have hfz63_0 := blk_frozen BK160.out 0; have hfz63_1 := blk_frozen BK160.out 1; have hfz63_2 := blk_frozen BK160.out 2; have hfz63_3 := blk_frozen BK160.out 3; have hfz63_4 := blk_frozen BK160.out 4; have hfz63_5 := blk_frozen BK160.out 5))
    refine bodyPost_ret (results_ctt rfl _ _ gb160 25 #[.int .i64 0, .int .i64 0, .string (⟨#[]⟩ : ByteArray), .slice none 0 0, .int .i64 0, .int .i64 0] (0, 0) _ rfl (by refine blk_put (cs := #[.int .i64 0, .int .i64 0, .string (⟨#[]⟩ : ByteArray), .slice none 0 0, .int .i64 0, .int .i64 0]) ?_ 5 _ rfl; refine blk_put (cs := #[.int .i64 0, .int .i64 0, .string (⟨#[]⟩ : ByteArray), .slice none 0 0, .int .i64 0, .int .i64 0]) ?_ 4 _ rfl; refine blk_put (cs := #[.int .i64 0, .int .i64 0, .string (⟨#[]⟩ : ByteArray), .slice none 0 0, .int .i64 0, .int .i64 0]) ?_ 3 _ rfl; refine blk_put (cs := #[.int .i64 0, .int .i64 0, .string (⟨#[]⟩ : ByteArray), .slice none 0 0, .int .i64 0, .int .i64 0]) ?_ 2 _ rfl; refine blk_put (cs := #[.int .i64 0, .int .i64 0, .string (⟨#[]⟩ : ByteArray), .slice none 0 0, .int .i64 0, .int .i64 0]) ?_ 1 _ rfl; refine blk_put (cs := #[.int .i64 0, .int .i64 0, .string (⟨#[]⟩ : ByteArray), .slice none 0 0, .int .i64 0, .int .i64 0]) ?_ 0 _ rfl; (with_reducible repeat (refine blk_drewN ?_ _)); refine blk_far ?_ NB160_162.out _; exact BK160.out) Try.underlying25 rfl (by kernel_rfl)) rfl ?_
    exact ⟨_, by (rfl), by (exact Kd.R_nil _ _ _ _ _), by repeat (with_reducible first | exact HB.out | apply pw_below_drewN | refine below_set ?_ GE160.out | refine below_set ?_ GE162.out)⟩
  rw [if_pos c29] at H
  have c29b0 : (t169 == 0) = true := beq_iff_eq.mpr c29
  have c29b1 : (t169 != 0) = false := bne_eq_false_iff_eq.mpr c29
  clear c29
  have H' := Aside0.mk H
  clear H
  go_wp2_with (first | ((with_reducible refine gate_callee (f := 46) rfl ?_); refine goesL_ (some 44) rfl rfl Try.func46 (by kernel_rfl) rfl #[.slice (some ad161) l0.length c0, .int .i64 (wrap64 (a1 + 1))] rfl (by (try simp only [List.map_toArray, List.map_cons, List.map_nil]); (rfl)) ?_; (with_reducible refine (notaryref01_Get.calls kj11 _ _ l0 (wrap64 (a1 + 1)) t163 t164 t165 _ ?side1 ?side2 A25.out).mono ?_); (case side1 => exact Kd.C_below HR0.out HB.out); (case side2 => exact HC0.out); rintro e w' ⟨rfl, ⟨nd, rfl⟩⟩; refine ⟨_, rfl, ?_⟩; (try (rw [drewN_self wc]; generalize hq_ : World.drewN wc _ = wc; have n0_ : Aside0 (wc.heap[gb160]? = some (.cells #[.int .i64 0, .int .i64 0, .string (⟨#[]⟩ : ByteArray), .slice none 0 0, .int .i64 0, .int .i64 0] 25 (0, 0))) := ⟨by rw [← hq_]; exact (by (with_reducible repeat (refine blk_drewN ?_ _)); exact BK160.out)⟩; have n1_ : Aside0 (wc.heap[gb162]? = some (.cells #[.int .i64 (wrap64 (rd l0 a1)), .int .i64 0, .string (⟨#[]⟩ : ByteArray), .slice none 0 0, .int .i64 0, .int .i64 0] 25 (0, 0))) := ⟨by rw [← hq_]; exact (by (with_reducible repeat (refine blk_drewN ?_ _)); exact BK162.out)⟩; have n2_ : Aside0 (Below w.heap.size w wc) := ⟨by rw [← hq_]; exact (by repeat (with_reducible first | exact HB.out | apply pw_below_drewN))⟩; clear BK160 BK162 HB hq_; have BK160 := n0_; have BK162 := n1_; have HB := n2_; clear n0_ n1_ n2_))) | ((with_reducible refine gate_callee (f := 47) rfl ?_); refine goesL_ (some 53) rfl rfl Try.func47 (by kernel_rfl) rfl #[.int .u64 t163] rfl (by (try simp only [List.map_toArray, List.map_cons, List.map_nil]); (rfl)) ?_; (with_reducible refine (notaryref01_Zag.calls t163 t166 _ A27.out).mono ?_); rintro e w' ⟨rfl, ⟨nd, rfl⟩⟩; refine ⟨_, rfl, ?_⟩; (try (rw [drewN_self wc]; generalize hq_ : World.drewN wc _ = wc; have n0_ : Aside0 (wc.heap[gb160]? = some (.cells #[.int .i64 0, .int .i64 0, .string (⟨#[]⟩ : ByteArray), .slice none 0 0, .int .i64 0, .int .i64 0] 25 (0, 0))) := ⟨by rw [← hq_]; exact (by (with_reducible repeat (refine blk_drewN ?_ _)); exact BK160.out)⟩; have n1_ : Aside0 (wc.heap[gb162]? = some (.cells #[.int .i64 (wrap64 (rd l0 a1)), .int .i64 0, .string (⟨#[]⟩ : ByteArray), .slice none 0 0, .int .i64 0, .int .i64 0] 25 (0, 0))) := ⟨by rw [← hq_]; exact (by (with_reducible repeat (refine blk_drewN ?_ _)); exact BK162.out)⟩; have n2_ : Aside0 (Below w.heap.size w wc) := ⟨by rw [← hq_]; exact (by repeat (with_reducible first | exact HB.out | apply pw_below_drewN))⟩; clear BK160 BK162 HB hq_; have BK160 := n0_; have BK162 := n1_; have HB := n2_; clear n0_ n1_ n2_)); have hnb30 := NB162_160.out; have hnc30 := NB160_162.out; have hcz31_0 : wc.cell? ⟨gb162, 0, none⟩ = some (.int .i64 (wrap64 (rd l0 a1))) := (blk_cell BK162.out 0).trans rfl; have hcz31_1 : wc.cell? ⟨gb162, 1, none⟩ = some (.int .i64 0) := (blk_cell BK162.out 1).trans rfl; have hcz31_2 : wc.cell? ⟨gb162, 2, none⟩ = some (.string (⟨#[]⟩ : ByteArray)) := (blk_cell BK162.out 2).trans rfl; have hcz31_3 : wc.cell? ⟨gb162, 3, none⟩ = some (.slice none 0 0) := (blk_cell BK162.out 3).trans rfl; have hcz31_4 : wc.cell? ⟨gb162, 4, none⟩ = some (.int .i64 0) := (blk_cell BK162.out 4).trans rfl; have hcz31_5 : wc.cell? ⟨gb162, 5, none⟩ = some (.int .i64 0) := (blk_cell BK162.out 5).trans rfl; have hfz31_0 := blk_frozen BK162.out 0; have hfz31_1 := blk_frozen BK162.out 1; have hfz31_2 := blk_frozen BK162.out 2; have hfz31_3 := blk_frozen BK162.out 3; have hfz31_4 := blk_frozen BK162.out 4; have hfz31_5 := blk_frozen BK162.out 5) | ((with_reducible refine gate_callee (f := 46) rfl ?_); refine goesL_ (some 58) rfl rfl Try.func46 (by kernel_rfl) rfl #[.slice (some ad161) l0.length c0, .int .i64 t164] rfl (by (try simp only [List.map_toArray, List.map_cons, List.map_nil]); (rfl)) ?_; (with_reducible refine (notaryref01_Get.calls kj11 _ _ l0 t164 t167 t168 t169 _ ?side1 ?side2 A28.out).mono ?_); (case side1 => exact Kd.C_below HR0.out (by repeat (with_reducible first | exact HB.out | refine below_set ?_ GE162.out))); (case side2 => exact HC0.out); rintro e w' ⟨rfl, ⟨nd, rfl⟩⟩; refine ⟨_, rfl, ?_⟩))
  go_loopg [1, 13] kj11 (fun kq v1 v13 w' => ∃ (x1_2 : Int) (x13_2 : Int) (x161000_2 : Int) (x161001_2 : Int) (x161002_2 : ByteArray) (x161004_2 : Int) (x161005_2 : Int) (x163003_2 : List (S25)) (u163003 : Value), v1 = .int .i64 x1_2 ∧ v13 = .int .u64 x13_2 ∧ Aside0 (notaryref36_ReadTerm.l0 kq l0 x1_2 a2 t167 x13_2 (wrap64 (rd l0 a1)) t166 (⟨#[]⟩ : ByteArray) x163003_2 0 0 = some (r1, r2, r3, r4, r5, r6, r7, r8)) ∧ Aside0 (kq ≤ kj11) ∧ Aside0 (Kd.R k25 25 w' w.heap.size (fun k_ => k_ ≠ gb160 ∧ k_ ≠ gb162) u163003 x163003_2) ∧ Aside0 (w'.heap[gb160]? = some (.cells #[.int .i64 x161000_2, .int .i64 x161001_2, .string x161002_2, (.slice none 0 0), .int .i64 x161004_2, .int .i64 x161005_2] 25 (0, 0))) ∧ Aside0 (w'.heap[gb162]? = some (.cells #[.int .i64 (wrap64 (rd l0 a1)), .int .i64 t166, .string (⟨#[]⟩ : ByteArray), u163003, .int .i64 0, .int .i64 0] 25 (0, 0))) ∧ Aside0 (Below w.heap.size w w'))
  case atStart => exact ⟨(t168), (0), (0), (0), (⟨#[]⟩ : ByteArray), (0), (0), (([] : List (S25))), (.slice none 0 0), (by (rfl)), (by (rfl)), H', ⟨Nat.le_refl _⟩, ⟨by (exact Kd.R_nil _ _ _ _ _)⟩, ⟨by (with_reducible repeat (refine blk_drewN ?_ _)); refine blk_far ?_ NB160_162.out _; exact BK160.out⟩, ⟨by (with_reducible repeat (refine blk_drewN ?_ _)); refine blk_put (cs := #[.int .i64 (wrap64 (rd l0 a1)), .int .i64 0, .string (⟨#[]⟩ : ByteArray), .slice none 0 0, .int .i64 0, .int .i64 0]) ?_ 1 _ rfl; exact BK162.out⟩, ⟨by repeat (with_reducible first | exact HB.out | apply pw_below_drewN | refine below_set ?_ GE162.out)⟩⟩
  clear H'
  try clear c26b0
  try clear c26b1
  try clear c29b0
  try clear c29b1
  try clear hcz31_0
  try clear hcz31_1
  try clear hcz31_2
  try clear hcz31_3
  try clear hcz31_4
  try clear hcz31_5
  try clear hfz31_0
  try clear hfz31_1
  try clear hfz31_2
  try clear hfz31_3
  try clear hfz31_4
  try clear hfz31_5
  obtain ⟨x1_2, x13_2, x161000_2, x161001_2, x161002_2, x161004_2, x161005_2, x163003_2, u163003, rfl, rfl, HA, HK2, HO_163003, BK160, BK162, HB⟩ := hrel
  rcases gk with _ | k2
  · exact absurd HA.out (by simp [notaryref36_ReadTerm.l0])
  have H := HA.out
  clear HA
  simp only [notaryref36_ReadTerm.l0] at H
  by_cases c32 : x13_2 < t167
  rotate_left
  · rw [if_neg c32] at H
    have c32b0 : decide (x13_2 < t167) = false := decide_eq_false c32
    clear c32
    simp only [Option.some.injEq, Prod.mk.injEq] at H
    obtain ⟨rfl, rfl, rfl, rfl, rfl, rfl, rfl, rfl⟩ := H
    have hnb57 := NB162_160.out
    have hnc57 := NB160_162.out
    have hcz58_0 : wr.cell? ⟨gb162, 0, none⟩ = some (.int .i64 (wrap64 (rd l0 a1))) := (blk_cell BK162.out 0).trans rfl
    have hcz58_1 : wr.cell? ⟨gb162, 1, none⟩ = some (.int .i64 t166) := (blk_cell BK162.out 1).trans rfl
    have hcz58_2 : wr.cell? ⟨gb162, 2, none⟩ = some (.string (⟨#[]⟩ : ByteArray)) := (blk_cell BK162.out 2).trans rfl
    have hcz58_3 : wr.cell? ⟨gb162, 3, none⟩ = some (u163003) := (blk_cell BK162.out 3).trans rfl
    have hcz58_4 : wr.cell? ⟨gb162, 4, none⟩ = some (.int .i64 0) := (blk_cell BK162.out 4).trans rfl
    have hcz58_5 : wr.cell? ⟨gb162, 5, none⟩ = some (.int .i64 0) := (blk_cell BK162.out 5).trans rfl
    have hfz58_0 := blk_frozen BK162.out 0
    have hfz58_1 := blk_frozen BK162.out 1
    have hfz58_2 := blk_frozen BK162.out 2
    have hfz58_3 := blk_frozen BK162.out 3
    have hfz58_4 := blk_frozen BK162.out 4
    have hfz58_5 := blk_frozen BK162.out 5
    have hcz59_0 : wr.cell? ⟨gb160, 0, none⟩ = some (.int .i64 x161000_2) := (blk_cell BK160.out 0).trans rfl
    have hcz59_1 : wr.cell? ⟨gb160, 1, none⟩ = some (.int .i64 x161001_2) := (blk_cell BK160.out 1).trans rfl
    have hcz59_2 : wr.cell? ⟨gb160, 2, none⟩ = some (.string x161002_2) := (blk_cell BK160.out 2).trans rfl
    have hcz59_3 : wr.cell? ⟨gb160, 3, none⟩ = some (.slice none 0 0) := (blk_cell BK160.out 3).trans rfl
    have hcz59_4 : wr.cell? ⟨gb160, 4, none⟩ = some (.int .i64 x161004_2) := (blk_cell BK160.out 4).trans rfl
    have hcz59_5 : wr.cell? ⟨gb160, 5, none⟩ = some (.int .i64 x161005_2) := (blk_cell BK160.out 5).trans rfl
    have hfz59_0 := blk_frozen BK160.out 0
    have hfz59_1 := blk_frozen BK160.out 1
    have hfz59_2 := blk_frozen BK160.out 2
    have hfz59_3 := blk_frozen BK160.out 3
    have hfz59_4 := blk_frozen BK160.out 4
    have hfz59_5 := blk_frozen BK160.out 5
    obtain ⟨Ao60, co60, eo60⟩ := Kd.R_slice HO_163003.out
    subst eo60
    go_wp2
    refine bodyPost_ret (results_ctt rfl _ _ gb160 25 #[.int .i64 (wrap64 (rd l0 a1)), .int .i64 t166, .string (⟨#[]⟩ : ByteArray), .slice Ao60 x163003_2.length co60, .int .i64 0, .int .i64 0] (0, 0) _ rfl (by refine blk_put (cs := #[.int .i64 (wrap64 (rd l0 a1)), .int .i64 t166, .string (⟨#[]⟩ : ByteArray), .slice Ao60 x163003_2.length co60, .int .i64 0, .int .i64 x161005_2]) ?_ 5 _ rfl; refine blk_put (cs := #[.int .i64 (wrap64 (rd l0 a1)), .int .i64 t166, .string (⟨#[]⟩ : ByteArray), .slice Ao60 x163003_2.length co60, .int .i64 x161004_2, .int .i64 x161005_2]) ?_ 4 _ rfl; refine blk_put (cs := #[.int .i64 (wrap64 (rd l0 a1)), .int .i64 t166, .string (⟨#[]⟩ : ByteArray), .slice none 0 0, .int .i64 x161004_2, .int .i64 x161005_2]) ?_ 3 _ rfl; refine blk_put (cs := #[.int .i64 (wrap64 (rd l0 a1)), .int .i64 t166, .string x161002_2, .slice none 0 0, .int .i64 x161004_2, .int .i64 x161005_2]) ?_ 2 _ rfl; refine blk_put (cs := #[.int .i64 (wrap64 (rd l0 a1)), .int .i64 x161001_2, .string x161002_2, .slice none 0 0, .int .i64 x161004_2, .int .i64 x161005_2]) ?_ 1 _ rfl; refine blk_put (cs := #[.int .i64 x161000_2, .int .i64 x161001_2, .string x161002_2, .slice none 0 0, .int .i64 x161004_2, .int .i64 x161005_2]) ?_ 0 _ rfl; exact BK160.out) Try.underlying25 rfl (by kernel_rfl)) rfl ?_
    exact ⟨_, by (rfl), by exact Kd.R_mono (Kd.R_far (p := ⟨gb160, 5, none⟩) (Kd.R_far (p := ⟨gb160, 4, none⟩) (Kd.R_far (p := ⟨gb160, 3, none⟩) (Kd.R_far (p := ⟨gb160, 2, none⟩) (Kd.R_far (p := ⟨gb160, 1, none⟩) (Kd.R_far (p := ⟨gb160, 0, none⟩) (Kd.R_mono HO_163003.out (fun k_ hk => (⟨hk, hk.1⟩ : _ ∧ k_ ≠ gb160))) (fun _ hk => hk.2) (.int .i64 (wrap64 (rd l0 a1)))) (fun _ hk => hk.2) (.int .i64 t166)) (fun _ hk => hk.2) (.string (⟨#[]⟩ : ByteArray))) (fun _ hk => hk.2) (.slice Ao60 x163003_2.length co60)) (fun _ hk => hk.2) (.int .i64 0)) (fun _ hk => hk.2) (.int .i64 0)) (fun _ hk => trivial), by repeat (with_reducible first | exact HB.out | refine below_set ?_ GE160.out)⟩
  rw [if_pos c32] at H
  have c32b0 : decide (x13_2 < t167) = true := decide_eq_true c32
  clear c32
  replace H := Option.bind_eq_some_iff.mp H
  obtain ⟨⟨t170, t171, t172, t173, t176, t177, t178, t179⟩, A330, H⟩ := H
  replace H : (if t179 = 0 then (if x163003_2.length < 1954687338268 then (notaryref36_ReadTerm.l0 k2 l0 t178 a2 t167 (IntKind.u64.wrap (x13_2 + 1)) (wrap64 (rd l0 a1)) t166 (⟨#[]⟩ : ByteArray) (x163003_2 ++ [(⟨t170, t171, t172, t173, t176, t177⟩ : S25)]) 0 0) else (none)) else (some (0, 0, (⟨#[]⟩ : ByteArray), ([] : List (S25)), 0, 0, 0, t179))) = some (r1, r2, r3, r4, r5, r6, r7, r8) := H
  have A33 := Aside0.mk A330
  clear A330
  by_cases c34 : t179 = 0
  rotate_left
  · rw [if_neg c34] at H
    have c34b0 : (t179 == 0) = false := beq_eq_false_iff_ne.mpr c34
    have c34b1 : (t179 != 0) = true := bne_iff_ne.mpr c34
    simp only [Option.some.injEq, Prod.mk.injEq] at H
    obtain ⟨rfl, rfl, rfl, rfl, rfl, rfl, rfl, rfl⟩ := H
    go_wp2_with (first | ((with_reducible refine gate_callee (f := 21) rfl ?_); refine goesL_ (some 76) rfl rfl Try.func21 (by kernel_rfl) rfl #[.slice (some ad161) l0.length c0, .int .i64 x1_2, .int .i64 (wrap64 (a2 + 1))] rfl (by (try simp only [List.map_toArray, List.map_cons, List.map_nil]); (rfl)) ?_; (with_reducible refine (ih k2 (by have := HJ11.out; have := HK2.out; omega) _ _ l0 x1_2 (wrap64 (a2 + 1)) t170 t171 t172 t173 t176 t177 t178 t179 _ ?side1 ?side2 A33.out).mono ?_); (case side1 => exact Kd.C_below HR0.out HB.out); (case side2 => exact HC0.out); rintro e w49 ⟨v174, rfl, ho0, hb⟩; refine ⟨_, rfl, ?_⟩; have n0_ := Aside0.mk (Kd.R_elder' (by exact HO_163003.out) (Kd.R_base ho0) hb); have n1_ := Aside0.mk (Kd.R_lower (Kd.R_newB (Kd.R_newB (Kd.R_new' ho0 (Kd.R_lt (by exact HO_163003.out))) (g := gb160) (o := .cells #[.int .i64 x161000_2, .int .i64 x161001_2, .string x161002_2, .slice none 0 0, .int .i64 x161004_2, .int .i64 x161005_2] 25 (0, 0)) (by exact BK160.out)) (g := gb162) (o := .cells #[.int .i64 (wrap64 (rd l0 a1)), .int .i64 t166, .string (⟨#[]⟩ : ByteArray), u163003, .int .i64 0, .int .i64 0] 25 (0, 0)) (by exact BK162.out)) (below_size HB.out)); have n2_ := Aside0.mk (blk_below (g := gb160) (o := .cells #[.int .i64 x161000_2, .int .i64 x161001_2, .string x161002_2, .slice none 0 0, .int .i64 x161004_2, .int .i64 x161005_2] 25 (0, 0)) (by exact BK160.out) hb); have n3_ := Aside0.mk (blk_below (g := gb162) (o := .cells #[.int .i64 (wrap64 (rd l0 a1)), .int .i64 t166, .string (⟨#[]⟩ : ByteArray), u163003, .int .i64 0, .int .i64 0] 25 (0, 0)) (by exact BK162.out) hb); have n4_ := Aside0.mk (below_step HB.out hb); clear HO_163003; clear BK160; clear BK162; clear HB; have HO_163003 := n0_; have HO175 := n1_; have BK160 := n2_; have BK162 := n3_; have HB := n4_; clear n0_ n1_ n2_ n3_ n4_; (try clear hb); (try clear ho0)) | ((with_reducible refine gate_dst (N := 14) rfl ?_); refine box_event ?hg (N := 14) ?hd (cs := #[.int .i64 0, .int .i64 0, .string (⟨#[]⟩ : ByteArray), .slice none 0 0, .int .i64 0, .int .i64 0]) (t := 25) ?hr ?_; (case hd => rfl); (case hg => rfl); (case hr => (go_simp; done)); intro gb180 hg w50 hbox hb; have n0_ := Aside0.mk (Kd.R_below (Kd.R_elderB (by exact HO_163003.out) gb180 (Nat.le_of_eq hg.symm)) hb); have n1_ := Aside0.mk (Kd.R_below (Kd.R_elderB (by exact HO175.out) gb180 (Nat.le_of_eq hg.symm)) hb); have n2_ := Aside0.mk (blk_below (g := gb160) (o := .cells #[.int .i64 x161000_2, .int .i64 x161001_2, .string x161002_2, .slice none 0 0, .int .i64 x161004_2, .int .i64 x161005_2] 25 (0, 0)) (by exact BK160.out) hb); have n3_ := Aside0.mk (blk_below (g := gb162) (o := .cells #[.int .i64 (wrap64 (rd l0 a1)), .int .i64 t166, .string (⟨#[]⟩ : ByteArray), u163003, .int .i64 0, .int .i64 0] 25 (0, 0)) (by exact BK162.out) hb); have n4_ := Aside0.mk (below_step HB.out hb); have n5_ := Aside0.mk (hbox); have n6_ := Aside0.mk ((by rw [hg]; exact (below_size HB.out) : w.heap.size ≤ gb180)); have n7_ := Aside0.mk ((by rw [hg]; exact (below_size HB.out) : w.heap.size ≤ gb180)); have n8_ := Aside0.mk ((by rw [hg]; exact Nat.ne_of_lt (blk_lt (g := gb160) (o := .cells #[.int .i64 x161000_2, .int .i64 x161001_2, .string x161002_2, .slice none 0 0, .int .i64 x161004_2, .int .i64 x161005_2] 25 (0, 0)) (by exact BK160.out)) : gb160 ≠ gb180)); have n9_ := Aside0.mk ((by rw [hg]; exact Nat.ne_of_gt (blk_lt (g := gb160) (o := .cells #[.int .i64 x161000_2, .int .i64 x161001_2, .string x161002_2, .slice none 0 0, .int .i64 x161004_2, .int .i64 x161005_2] 25 (0, 0)) (by exact BK160.out)) : gb180 ≠ gb160)); have n10_ := Aside0.mk ((by rw [hg]; exact Nat.ne_of_lt (blk_lt (g := gb162) (o := .cells #[.int .i64 (wrap64 (rd l0 a1)), .int .i64 t166, .string (⟨#[]⟩ : ByteArray), u163003, .int .i64 0, .int .i64 0] 25 (0, 0)) (by exact BK162.out)) : gb162 ≠ gb180)); have n11_ := Aside0.mk ((by rw [hg]; exact Nat.ne_of_gt (blk_lt (g := gb162) (o := .cells #[.int .i64 (wrap64 (rd l0 a1)), .int .i64 t166, .string (⟨#[]⟩ : ByteArray), u163003, .int .i64 0, .int .i64 0] 25 (0, 0)) (by exact BK162.out)) : gb180 ≠ gb162)); clear HO_163003; clear HO175; clear BK160; clear BK162; clear HB; have HO_163003 := n0_; have HO175 := n1_; have BK160 := n2_; have BK162 := n3_; have HB := n4_; have BK180 := n5_; have GW180 := n6_; have GE180 := n7_; have NB160_180 := n8_; have NB180_160 := n9_; have NB162_180 := n10_; have NB180_162 := n11_; clear n0_ n1_ n2_ n3_ n4_ n5_ n6_ n7_ n8_ n9_ n10_ n11_; clear hb hbox hg; have hnb51 := NB180_160.out; have hnc51 := NB160_180.out; have hnb52 := NB180_162.out; have hnc52 := NB162_180.out; have hcz53_0 : w50.cell? ⟨gb180, 0, none⟩ = some (.int .i64 0) := (blk_cell BK180.out 0).trans rfl; have hcz53_1 : w50.cell? ⟨gb180, 1, none⟩ = some (.int .i64 0) := (blk_cell BK180.out 1).trans rfl; have hcz53_2 : w50.cell? ⟨gb180, 2, none⟩ = some (.string (⟨#[]⟩ : ByteArray)) := (blk_cell BK180.out 2).trans rfl; have hcz53_3 : w50.cell? ⟨gb180, 3, none⟩ = some (.slice none 0 0) := (blk_cell BK180.out 3).trans rfl; have hcz53_4 : w50.cell? ⟨gb180, 4, none⟩ = some (.int .i64 0) := (blk_cell BK180.out 4).trans rfl; have hcz53_5 : w50.cell? ⟨gb180, 5, none⟩ = some (.int .i64 0) := (blk_cell BK180.out 5).trans rfl; have hfz53_0 := blk_frozen BK180.out 0; have hfz53_1 := blk_frozen BK180.out 1; have hfz53_2 := blk_frozen BK180.out 2; have hfz53_3 := blk_frozen BK180.out 3; have hfz53_4 := blk_frozen BK180.out 4; have hfz53_5 := blk_frozen BK180.out 5; obtain ⟨Ao54, co54, eo54⟩ := Kd.R_slice HO175.out; subst eo54; have hnb55 := NB160_162.out; have hnc55 := NB162_160.out; have hcz56_0 : w50.cell? ⟨gb160, 0, none⟩ = some (.int .i64 x161000_2) := (blk_cell BK160.out 0).trans rfl; have hcz56_1 : w50.cell? ⟨gb160, 1, none⟩ = some (.int .i64 x161001_2) := (blk_cell BK160.out 1).trans rfl; have hcz56_2 : w50.cell? ⟨gb160, 2, none⟩ = some (.string x161002_2) := (blk_cell BK160.out 2).trans rfl; have hcz56_3 : w50.cell? ⟨gb160, 3, none⟩ = some (.slice none 0 0) := (blk_cell BK160.out 3).trans rfl; have hcz56_4 : w50.cell? ⟨gb160, 4, none⟩ = some (.int .i64 x161004_2) := (blk_cell BK160.out 4).trans rfl; have hcz56_5 : w50.cell? ⟨gb160, 5, none⟩ = some (.int .i64 x161005_2) := (blk_cell BK160.out 5).trans rfl; have hfz56_0 := blk_frozen BK160.out 0; have hfz56_1 := blk_frozen BK160.out 1; have hfz56_2 := blk_frozen BK160.out 2; have hfz56_3 := blk_frozen BK160.out 3; have hfz56_4 := blk_frozen BK160.out 4; have hfz56_5 := blk_frozen BK160.out 5))
    refine bodyPost_ret (results_ctt rfl _ _ gb160 25 #[.int .i64 0, .int .i64 0, .string (⟨#[]⟩ : ByteArray), .slice none 0 0, .int .i64 0, .int .i64 0] (0, 0) _ rfl (by refine blk_put (cs := #[.int .i64 0, .int .i64 0, .string (⟨#[]⟩ : ByteArray), .slice none 0 0, .int .i64 0, .int .i64 x161005_2]) ?_ 5 _ rfl; refine blk_put (cs := #[.int .i64 0, .int .i64 0, .string (⟨#[]⟩ : ByteArray), .slice none 0 0, .int .i64 x161004_2, .int .i64 x161005_2]) ?_ 4 _ rfl; refine blk_put (cs := #[.int .i64 0, .int .i64 0, .string (⟨#[]⟩ : ByteArray), .slice none 0 0, .int .i64 x161004_2, .int .i64 x161005_2]) ?_ 3 _ rfl; refine blk_put (cs := #[.int .i64 0, .int .i64 0, .string x161002_2, .slice none 0 0, .int .i64 x161004_2, .int .i64 x161005_2]) ?_ 2 _ rfl; refine blk_put (cs := #[.int .i64 0, .int .i64 x161001_2, .string x161002_2, .slice none 0 0, .int .i64 x161004_2, .int .i64 x161005_2]) ?_ 1 _ rfl; refine blk_put (cs := #[.int .i64 x161000_2, .int .i64 x161001_2, .string x161002_2, .slice none 0 0, .int .i64 x161004_2, .int .i64 x161005_2]) ?_ 0 _ rfl; refine blk_far ?_ NB160_180.out _; refine blk_far ?_ NB160_180.out _; refine blk_far ?_ NB160_180.out _; refine blk_far ?_ NB160_180.out _; refine blk_far ?_ NB160_180.out _; refine blk_far ?_ NB160_180.out _; exact BK160.out) Try.underlying25 rfl (by kernel_rfl)) rfl ?_
    exact ⟨_, by (rfl), by (exact Kd.R_nil _ _ _ _ _), by repeat (with_reducible first | exact HB.out | refine below_set ?_ GE160.out | refine below_set ?_ GE180.out)⟩
  rw [if_pos c34] at H
  have c34b0 : (t179 == 0) = true := beq_iff_eq.mpr c34
  have c34b1 : (t179 != 0) = false := bne_eq_false_iff_eq.mpr c34
  clear c34
  by_cases c35 : x163003_2.length < 1954687338268
  rotate_left
  · rw [if_neg c35] at H
    exact absurd H (by simp)
  rw [if_pos c35] at H
  have LMc35 := Aside0.mk c35
  clear c35
  obtain ⟨y181, hy181⟩ : ∃ y_ : List (S25), y_ = (x163003_2 ++ [(⟨t170, t171, t172, t173, t176, t177⟩ : S25)]) := ⟨_, rfl⟩
  replace H : (notaryref36_ReadTerm.l0 k2 l0 t178 a2 t167 (IntKind.u64.wrap (x13_2 + 1)) (wrap64 (rd l0 a1)) t166 (⟨#[]⟩ : ByteArray) y181 0 0) = some (r1, r2, r3, r4, r5, r6, r7, r8) := by (rw [hy181]; with_reducible exact H)
  have Ny181 := Aside0.mk hy181
  clear hy181
  have H' := Aside0.mk H
  clear H
  go_wp2_with (first | ((with_reducible refine gate_callee (f := 21) rfl ?_); refine goesL_ (some 76) rfl rfl Try.func21 (by kernel_rfl) rfl #[.slice (some ad161) l0.length c0, .int .i64 x1_2, .int .i64 (wrap64 (a2 + 1))] rfl (by (try simp only [List.map_toArray, List.map_cons, List.map_nil]); (rfl)) ?_; (with_reducible refine (ih k2 (by have := HJ11.out; have := HK2.out; omega) _ _ l0 x1_2 (wrap64 (a2 + 1)) t170 t171 t172 t173 t176 t177 t178 t179 _ ?side1 ?side2 A33.out).mono ?_); (case side1 => exact Kd.C_below HR0.out HB.out); (case side2 => exact HC0.out); rintro e w36 ⟨v174, rfl, ho0, hb⟩; refine ⟨_, rfl, ?_⟩; have n0_ := Aside0.mk (Kd.R_elder' (by exact HO_163003.out) (Kd.R_base ho0) hb); have n1_ := Aside0.mk (Kd.R_lower (Kd.R_newB (Kd.R_newB (Kd.R_new' ho0 (Kd.R_lt (by exact HO_163003.out))) (g := gb160) (o := .cells #[.int .i64 x161000_2, .int .i64 x161001_2, .string x161002_2, .slice none 0 0, .int .i64 x161004_2, .int .i64 x161005_2] 25 (0, 0)) (by exact BK160.out)) (g := gb162) (o := .cells #[.int .i64 (wrap64 (rd l0 a1)), .int .i64 t166, .string (⟨#[]⟩ : ByteArray), u163003, .int .i64 0, .int .i64 0] 25 (0, 0)) (by exact BK162.out)) (below_size HB.out)); have n2_ := Aside0.mk (blk_below (g := gb160) (o := .cells #[.int .i64 x161000_2, .int .i64 x161001_2, .string x161002_2, .slice none 0 0, .int .i64 x161004_2, .int .i64 x161005_2] 25 (0, 0)) (by exact BK160.out) hb); have n3_ := Aside0.mk (blk_below (g := gb162) (o := .cells #[.int .i64 (wrap64 (rd l0 a1)), .int .i64 t166, .string (⟨#[]⟩ : ByteArray), u163003, .int .i64 0, .int .i64 0] 25 (0, 0)) (by exact BK162.out) hb); have n4_ := Aside0.mk (below_step HB.out hb); clear HO_163003; clear BK160; clear BK162; clear HB; have HO_163003 := n0_; have HO175 := n1_; have BK160 := n2_; have BK162 := n3_; have HB := n4_; clear n0_ n1_ n2_ n3_ n4_; (try clear hb); (try clear ho0)) | ((with_reducible refine gate_dst (N := 14) rfl ?_); refine box_event ?hg (N := 14) ?hd (cs := #[.int .i64 0, .int .i64 0, .string (⟨#[]⟩ : ByteArray), .slice none 0 0, .int .i64 0, .int .i64 0]) (t := 25) ?hr ?_; (case hd => rfl); (case hg => rfl); (case hr => (go_simp; done)); intro gb180 hg w37 hbox hb; have n0_ := Aside0.mk (Kd.R_below (Kd.R_elderB (by exact HO_163003.out) gb180 (Nat.le_of_eq hg.symm)) hb); have n1_ := Aside0.mk (Kd.R_below (Kd.R_elderB (by exact HO175.out) gb180 (Nat.le_of_eq hg.symm)) hb); have n2_ := Aside0.mk (blk_below (g := gb160) (o := .cells #[.int .i64 x161000_2, .int .i64 x161001_2, .string x161002_2, .slice none 0 0, .int .i64 x161004_2, .int .i64 x161005_2] 25 (0, 0)) (by exact BK160.out) hb); have n3_ := Aside0.mk (blk_below (g := gb162) (o := .cells #[.int .i64 (wrap64 (rd l0 a1)), .int .i64 t166, .string (⟨#[]⟩ : ByteArray), u163003, .int .i64 0, .int .i64 0] 25 (0, 0)) (by exact BK162.out) hb); have n4_ := Aside0.mk (below_step HB.out hb); have n5_ := Aside0.mk (hbox); have n6_ := Aside0.mk ((by rw [hg]; exact (below_size HB.out) : w.heap.size ≤ gb180)); have n7_ := Aside0.mk ((by rw [hg]; exact (below_size HB.out) : w.heap.size ≤ gb180)); have n8_ := Aside0.mk ((by rw [hg]; exact Nat.ne_of_lt (blk_lt (g := gb160) (o := .cells #[.int .i64 x161000_2, .int .i64 x161001_2, .string x161002_2, .slice none 0 0, .int .i64 x161004_2, .int .i64 x161005_2] 25 (0, 0)) (by exact BK160.out)) : gb160 ≠ gb180)); have n9_ := Aside0.mk ((by rw [hg]; exact Nat.ne_of_gt (blk_lt (g := gb160) (o := .cells #[.int .i64 x161000_2, .int .i64 x161001_2, .string x161002_2, .slice none 0 0, .int .i64 x161004_2, .int .i64 x161005_2] 25 (0, 0)) (by exact BK160.out)) : gb180 ≠ gb160)); have n10_ := Aside0.mk ((by rw [hg]; exact Nat.ne_of_lt (blk_lt (g := gb162) (o := .cells #[.int .i64 (wrap64 (rd l0 a1)), .int .i64 t166, .string (⟨#[]⟩ : ByteArray), u163003, .int .i64 0, .int .i64 0] 25 (0, 0)) (by exact BK162.out)) : gb162 ≠ gb180)); have n11_ := Aside0.mk ((by rw [hg]; exact Nat.ne_of_gt (blk_lt (g := gb162) (o := .cells #[.int .i64 (wrap64 (rd l0 a1)), .int .i64 t166, .string (⟨#[]⟩ : ByteArray), u163003, .int .i64 0, .int .i64 0] 25 (0, 0)) (by exact BK162.out)) : gb180 ≠ gb162)); clear HO_163003; clear HO175; clear BK160; clear BK162; clear HB; have HO_163003 := n0_; have HO175 := n1_; have BK160 := n2_; have BK162 := n3_; have HB := n4_; have BK180 := n5_; have GW180 := n6_; have GE180 := n7_; have NB160_180 := n8_; have NB180_160 := n9_; have NB162_180 := n10_; have NB180_162 := n11_; clear n0_ n1_ n2_ n3_ n4_ n5_ n6_ n7_ n8_ n9_ n10_ n11_; clear hb hbox hg; have hnb38 := NB180_160.out; have hnc38 := NB160_180.out; have hnb39 := NB180_162.out; have hnc39 := NB162_180.out; have hcz40_0 : w37.cell? ⟨gb180, 0, none⟩ = some (.int .i64 0) := (blk_cell BK180.out 0).trans rfl; have hcz40_1 : w37.cell? ⟨gb180, 1, none⟩ = some (.int .i64 0) := (blk_cell BK180.out 1).trans rfl; have hcz40_2 : w37.cell? ⟨gb180, 2, none⟩ = some (.string (⟨#[]⟩ : ByteArray)) := (blk_cell BK180.out 2).trans rfl; have hcz40_3 : w37.cell? ⟨gb180, 3, none⟩ = some (.slice none 0 0) := (blk_cell BK180.out 3).trans rfl; have hcz40_4 : w37.cell? ⟨gb180, 4, none⟩ = some (.int .i64 0) := (blk_cell BK180.out 4).trans rfl; have hcz40_5 : w37.cell? ⟨gb180, 5, none⟩ = some (.int .i64 0) := (blk_cell BK180.out 5).trans rfl; have hfz40_0 := blk_frozen BK180.out 0; have hfz40_1 := blk_frozen BK180.out 1; have hfz40_2 := blk_frozen BK180.out 2; have hfz40_3 := blk_frozen BK180.out 3; have hfz40_4 := blk_frozen BK180.out 4; have hfz40_5 := blk_frozen BK180.out 5; obtain ⟨Ao41, co41, eo41⟩ := Kd.R_slice HO175.out; subst eo41) | ((with_reducible refine gate_store (t := 25) (p := 14) rfl ?_); refine store_event (t := 25) (p := 14) (v := ?vo_w42) (w1 := ((((((w37.setCell ⟨gb180, 0, none⟩ (.int .i64 t170)).setCell ⟨gb180, 1, none⟩ (.int .i64 t171)).setCell ⟨gb180, 2, none⟩ (.string t172)).setCell ⟨gb180, 3, none⟩ (.slice Ao41 t173.length co41)).setCell ⟨gb180, 4, none⟩ (.int .i64 t176)).setCell ⟨gb180, 5, none⟩ (.int .i64 t177))) ?hg ?ho ?hn ?hr ?_; (case ho => rfl); (case hg => rfl); (case hn => rfl); (case hr => (go_simp; done)); intro w42 hw; have n0_ : Aside0 (Kd.R k25 25 w42 w.heap.size (fun k_ => some k_ ≠ (.slice Ao41 t173.length co41 : Value).ownBlock ∧ k_ ≠ gb160 ∧ k_ ≠ gb162 ∧ k_ ≠ gb180) u163003 x163003_2) := ⟨(by rw [hw]; exact (by exact Kd.R_mono (Kd.R_far (p := ⟨gb180, 5, none⟩) (Kd.R_far (p := ⟨gb180, 4, none⟩) (Kd.R_far (p := ⟨gb180, 3, none⟩) (Kd.R_far (p := ⟨gb180, 2, none⟩) (Kd.R_far (p := ⟨gb180, 1, none⟩) (Kd.R_far (p := ⟨gb180, 0, none⟩) (Kd.R_mono HO_163003.out (fun k_ hk => (⟨hk, hk.2⟩ : _ ∧ k_ ≠ gb180))) (fun _ hk => hk.2) (.int .i64 t170)) (fun _ hk => hk.2) (.int .i64 t171)) (fun _ hk => hk.2) (.string t172)) (fun _ hk => hk.2) (.slice Ao41 t173.length co41)) (fun _ hk => hk.2) (.int .i64 t176)) (fun _ hk => hk.2) (.int .i64 t177)) (fun _ hk => ⟨hk.1.1.2, ⟨hk.1.1.1.1, ⟨hk.1.1.1.2, hk.1.2⟩⟩⟩)))⟩; have n1_ : Aside0 (Kd.R k25 25 w42 w.heap.size (fun k_ => some k_ ≠ (u163003 : Value).ownBlock ∧ k_ ≠ gb160 ∧ k_ ≠ gb162 ∧ k_ ≠ gb180) (.slice Ao41 t173.length co41) t173) := ⟨(by rw [hw]; exact (by exact Kd.R_mono (Kd.R_far (p := ⟨gb180, 5, none⟩) (Kd.R_far (p := ⟨gb180, 4, none⟩) (Kd.R_far (p := ⟨gb180, 3, none⟩) (Kd.R_far (p := ⟨gb180, 2, none⟩) (Kd.R_far (p := ⟨gb180, 1, none⟩) (Kd.R_far (p := ⟨gb180, 0, none⟩) (Kd.R_mono HO175.out (fun k_ hk => (⟨hk, hk.2⟩ : _ ∧ k_ ≠ gb180))) (fun _ hk => hk.2) (.int .i64 t170)) (fun _ hk => hk.2) (.int .i64 t171)) (fun _ hk => hk.2) (.string t172)) (fun _ hk => hk.2) (.slice Ao41 t173.length co41)) (fun _ hk => hk.2) (.int .i64 t176)) (fun _ hk => hk.2) (.int .i64 t177)) (fun _ hk => ⟨hk.1.1.1.1.2, ⟨hk.1.1.1.2, ⟨hk.1.1.2, hk.1.2⟩⟩⟩)))⟩; have n2_ : Aside0 (w42.heap[gb160]? = some (.cells #[.int .i64 x161000_2, .int .i64 x161001_2, .string x161002_2, .slice none 0 0, .int .i64 x161004_2, .int .i64 x161005_2] 25 (0, 0))) := ⟨(by rw [hw]; exact (by refine blk_far ?_ NB160_180.out _; refine blk_far ?_ NB160_180.out _; refine blk_far ?_ NB160_180.out _; refine blk_far ?_ NB160_180.out _; refine blk_far ?_ NB160_180.out _; refine blk_far ?_ NB160_180.out _; exact BK160.out))⟩; have n3_ : Aside0 (w42.heap[gb162]? = some (.cells #[.int .i64 (wrap64 (rd l0 a1)), .int .i64 t166, .string (⟨#[]⟩ : ByteArray), u163003, .int .i64 0, .int .i64 0] 25 (0, 0))) := ⟨(by rw [hw]; exact (by refine blk_far ?_ NB162_180.out _; refine blk_far ?_ NB162_180.out _; refine blk_far ?_ NB162_180.out _; refine blk_far ?_ NB162_180.out _; refine blk_far ?_ NB162_180.out _; refine blk_far ?_ NB162_180.out _; exact BK162.out))⟩; have n4_ : Aside0 (w42.heap[gb180]? = some (.cells #[.int .i64 t170, .int .i64 t171, .string t172, .slice Ao41 t173.length co41, .int .i64 t176, .int .i64 t177] 25 (0, 0))) := ⟨(by rw [hw]; exact (by refine blk_put (cs := #[.int .i64 t170, .int .i64 t171, .string t172, .slice Ao41 t173.length co41, .int .i64 t176, .int .i64 0]) ?_ 5 _ rfl; refine blk_put (cs := #[.int .i64 t170, .int .i64 t171, .string t172, .slice Ao41 t173.length co41, .int .i64 0, .int .i64 0]) ?_ 4 _ rfl; refine blk_put (cs := #[.int .i64 t170, .int .i64 t171, .string t172, .slice none 0 0, .int .i64 0, .int .i64 0]) ?_ 3 _ rfl; refine blk_put (cs := #[.int .i64 t170, .int .i64 t171, .string (⟨#[]⟩ : ByteArray), .slice none 0 0, .int .i64 0, .int .i64 0]) ?_ 2 _ rfl; refine blk_put (cs := #[.int .i64 t170, .int .i64 0, .string (⟨#[]⟩ : ByteArray), .slice none 0 0, .int .i64 0, .int .i64 0]) ?_ 1 _ rfl; refine blk_put (cs := #[.int .i64 0, .int .i64 0, .string (⟨#[]⟩ : ByteArray), .slice none 0 0, .int .i64 0, .int .i64 0]) ?_ 0 _ rfl; exact BK180.out))⟩; have n5_ : Aside0 (Below w.heap.size w w42) := ⟨(by rw [hw]; exact (by repeat (with_reducible first | exact HB.out | refine below_set ?_ GE180.out)))⟩; clear hw; clear HO_163003; clear HO175; clear BK160; clear BK162; clear BK180; clear HB; have HO_163003 := n0_; have HO175 := n1_; have BK160 := n2_; have BK162 := n3_; have BK180 := n4_; have HB := n5_; clear n0_ n1_ n2_ n3_ n4_ n5_; have hnb43 := NB162_160.out; have hnc43 := NB160_162.out; have hcz44_0 : w42.cell? ⟨gb162, 0, none⟩ = some (.int .i64 (wrap64 (rd l0 a1))) := (blk_cell BK162.out 0).trans rfl; have hcz44_1 : w42.cell? ⟨gb162, 1, none⟩ = some (.int .i64 t166) := (blk_cell BK162.out 1).trans rfl; have hcz44_2 : w42.cell? ⟨gb162, 2, none⟩ = some (.string (⟨#[]⟩ : ByteArray)) := (blk_cell BK162.out 2).trans rfl; have hcz44_3 : w42.cell? ⟨gb162, 3, none⟩ = some (u163003) := (blk_cell BK162.out 3).trans rfl; have hcz44_4 : w42.cell? ⟨gb162, 4, none⟩ = some (.int .i64 0) := (blk_cell BK162.out 4).trans rfl; have hcz44_5 : w42.cell? ⟨gb162, 5, none⟩ = some (.int .i64 0) := (blk_cell BK162.out 5).trans rfl; have hfz44_0 := blk_frozen BK162.out 0; have hfz44_1 := blk_frozen BK162.out 1; have hfz44_2 := blk_frozen BK162.out 2; have hfz44_3 := blk_frozen BK162.out 3; have hfz44_4 := blk_frozen BK162.out 4; have hfz44_5 := blk_frozen BK162.out 5; have hcz45_0 : w42.cell? ⟨gb180, 0, none⟩ = some (.int .i64 t170) := (blk_cell BK180.out 0).trans rfl; have hcz45_1 : w42.cell? ⟨gb180, 1, none⟩ = some (.int .i64 t171) := (blk_cell BK180.out 1).trans rfl; have hcz45_2 : w42.cell? ⟨gb180, 2, none⟩ = some (.string t172) := (blk_cell BK180.out 2).trans rfl; have hcz45_3 : w42.cell? ⟨gb180, 3, none⟩ = some (.slice Ao41 t173.length co41) := (blk_cell BK180.out 3).trans rfl; have hcz45_4 : w42.cell? ⟨gb180, 4, none⟩ = some (.int .i64 t176) := (blk_cell BK180.out 4).trans rfl; have hcz45_5 : w42.cell? ⟨gb180, 5, none⟩ = some (.int .i64 t177) := (blk_cell BK180.out 5).trans rfl; have hfz45_0 := blk_frozen BK180.out 0; have hfz45_1 := blk_frozen BK180.out 1; have hfz45_2 := blk_frozen BK180.out 2; have hfz45_3 := blk_frozen BK180.out 3; have hfz45_4 := blk_frozen BK180.out 4; have hfz45_5 := blk_frozen BK180.out 5) | ((with_reducible refine gate_builtin (b := .append) (xs := #[.tmp 85, .tmp 87]) rfl ?_); at_builtin; refine Kd.R_append k25 (w0 := w) w.heap.size rfl (.tmp 85) (.tmp 87) 23 25 (.agg #[(.int .i64 0), (.int .i64 0), (.string ⟨#[]⟩), (.slice none 0 0), (.int .i64 0), (.int .i64 0)]) 72 rfl Try.underlying23 info25 rfl (by decide) (by omega) u163003 x163003_2 (⟨t170, t171, t172, t173, t176, t177⟩ : S25) [.int .i64 t170, .int .i64 t171, .string t172, .slice Ao41 t173.length co41, .int .i64 t176, .int .i64 t177] (fun k_ => k_ ≠ gb160 ∧ k_ ≠ gb162 ∧ k_ ≠ gb180) (fun k_ => (fun k_ => k_ ≠ gb160 ∧ k_ ≠ gb162 ∧ k_ ≠ gb180) k_ ∧ some k_ ≠ (u163003 : Value).ownBlock) rfl rfl ?aP (fun _ hk => hk) ?aF ?aO ?aB ?aS ?aL ?_; (case aP => exact k25_mkM _ _ _ (⟨t170, t171, t172, t173, t176, t177⟩ : S25) (Kd.R_mono (HO175.out) (fun k_ hk => ⟨⟨hk.2.1, ⟨hk.2.2.1, hk.2.2.2⟩⟩, hk.1⟩))); (case aB => exact HB.out); (case aF => exact (fun k_ hk => ⟨Kd.freshB (g := gb160) (o := .cells #[.int .i64 x161000_2, .int .i64 x161001_2, .string x161002_2, .slice none 0 0, .int .i64 x161004_2, .int .i64 x161005_2] 25 (0, 0)) (by exact BK160.out) k_ hk, Kd.freshB (g := gb162) (o := .cells #[.int .i64 (wrap64 (rd l0 a1)), .int .i64 t166, .string (⟨#[]⟩ : ByteArray), u163003, .int .i64 0, .int .i64 0] 25 (0, 0)) (by exact BK162.out) k_ hk, Kd.freshB (g := gb180) (o := .cells #[.int .i64 t170, .int .i64 t171, .string t172, .slice Ao41 t173.length co41, .int .i64 t176, .int .i64 t177] 25 (0, 0)) (by exact BK180.out) k_ hk⟩)); (case aO => exact (by exact Kd.R_mono HO_163003.out (fun _ hk => ⟨hk.2.1, ⟨hk.2.2.1, hk.2.2.2⟩⟩))); (case aS => exact (below_size HB.out)); (case aL => have := LMc35.out; omega); intro v182 w46 ho hb hg hat; rw [← Ny181.out] at ho; have n0_ := Aside0.mk (blk_grown (g := gb160) (o := .cells #[.int .i64 x161000_2, .int .i64 x161001_2, .string x161002_2, .slice none 0 0, .int .i64 x161004_2, .int .i64 x161005_2] 25 (0, 0)) (by exact BK160.out) hg (Kd.R_away HO_163003.out (fun _ hk => hk.2.1))); have n1_ := Aside0.mk (blk_grown (g := gb162) (o := .cells #[.int .i64 (wrap64 (rd l0 a1)), .int .i64 t166, .string (⟨#[]⟩ : ByteArray), u163003, .int .i64 0, .int .i64 0] 25 (0, 0)) (by exact BK162.out) hg (Kd.R_away HO_163003.out (fun _ hk => hk.2.2.1))); have n2_ := Aside0.mk (blk_grown (g := gb180) (o := .cells #[.int .i64 t170, .int .i64 t171, .string t172, .slice Ao41 t173.length co41, .int .i64 t176, .int .i64 t177] 25 (0, 0)) (by exact BK180.out) hg (Kd.R_away HO_163003.out (fun _ hk => hk.2.2.2))); have n3_ := Aside0.mk (hb); have n4_ := Aside0.mk (ho); clear BK160; clear BK162; clear BK180; clear HB; clear HO_163003; clear HO175; have BK160 := n0_; have BK162 := n1_; have BK180 := n2_; have HB := n3_; have HO183 := n4_; clear n0_ n1_ n2_ n3_ n4_; clear ho hb hg hat; obtain ⟨Ao47, co47, eo47⟩ := Kd.R_slice HO183.out; subst eo47; have hcz48_0 : w46.cell? ⟨gb162, 0, none⟩ = some (.int .i64 (wrap64 (rd l0 a1))) := (blk_cell BK162.out 0).trans rfl; have hcz48_1 : w46.cell? ⟨gb162, 1, none⟩ = some (.int .i64 t166) := (blk_cell BK162.out 1).trans rfl; have hcz48_2 : w46.cell? ⟨gb162, 2, none⟩ = some (.string (⟨#[]⟩ : ByteArray)) := (blk_cell BK162.out 2).trans rfl; have hcz48_3 : w46.cell? ⟨gb162, 3, none⟩ = some (u163003) := (blk_cell BK162.out 3).trans rfl; have hcz48_4 : w46.cell? ⟨gb162, 4, none⟩ = some (.int .i64 0) := (blk_cell BK162.out 4).trans rfl; have hcz48_5 : w46.cell? ⟨gb162, 5, none⟩ = some (.int .i64 0) := (blk_cell BK162.out 5).trans rfl; have hfz48_0 := blk_frozen BK162.out 0; have hfz48_1 := blk_frozen BK162.out 1; have hfz48_2 := blk_frozen BK162.out 2; have hfz48_3 := blk_frozen BK162.out 3; have hfz48_4 := blk_frozen BK162.out 4; have hfz48_5 := blk_frozen BK162.out 5))
  go_roundg k2
  case measure => have := HJ11.out; have := HK2.out; omega
  case rel => exact ⟨(t178), (IntKind.u64.wrap (x13_2 + 1)), (x161000_2), (x161001_2), (x161002_2), (x161004_2), (x161005_2), (y181), (.slice Ao47 y181.length co47), (by (rfl)), (by (rfl)), H', ⟨by have := HJ11.out; have := HK2.out; omega⟩, ⟨by exact Kd.R_mono (Kd.R_far (p := ⟨gb162, 3, none⟩) (Kd.R_mono HO183.out (fun k_ hk => (⟨hk, hk.2.1⟩ : _ ∧ k_ ≠ gb162))) (fun _ hk => hk.2) (.slice Ao47 y181.length co47)) (fun _ hk => ⟨hk.1.1, hk.1.2.1⟩)⟩, ⟨by refine blk_far ?_ NB160_162.out _; exact BK160.out⟩, ⟨by refine blk_put (cs := #[.int .i64 (wrap64 (rd l0 a1)), .int .i64 t166, .string (⟨#[]⟩ : ByteArray), u163003, .int .i64 0, .int .i64 0]) ?_ 3 _ rfl; exact BK162.out⟩, ⟨by repeat (with_reducible first | exact HB.out | refine below_set ?_ GE162.out)⟩⟩/-! ### notaryref36_Index: function 62 -/
def notaryref36_Index.f (k : Nat) (l0 : List Int) (a1 : Int) : Option (Int × Int × Int) := (notaryref01_Get.f k l0 a1).bind fun bt184 => (if bt184.2.2 = 0 then (if bt184.1 > 2147483647 then (some (0, 0, 13)) else (some (wrap64 (bt184.1), bt184.2.1, 0))) else (some (0, 0, bt184.2.2)))
set_option maxHeartbeats 8000000 in
set_option maxRecDepth 100000 in
theorem notaryref36_Index.calls (k : Nat) (A0 : Option Addr) (c0 : Nat) (l0 : List Int) (a1 : Int) (r1 : Int) (r2 : Int) (r3 : Int) (w : World) (hr0 : Kd.C (Kd.int .u8) w A0 l0.length l0) (hc0 : l0.length ≤ c0) (h : notaryref36_Index.f k l0 a1 = some (r1, r2, r3)) :
    Calls Try.prog 62 #[.slice A0 l0.length c0, .int .i64 a1] w fun e w' => e = .returned (.tuple #[.int .i64 r1, .int .i64 r2, .int .i64 r3]) ∧ Drawn0 w w' := by
  have HR0 := Aside0.mk hr0
  have HC0 := Aside0.mk hc0
  clear hr0 hc0
  have H : ((notaryref01_Get.f k l0 a1).bind fun bt184 => (if bt184.2.2 = 0 then (if bt184.1 > 2147483647 then (some (0, 0, 13)) else (some (wrap64 (bt184.1), bt184.2.1, 0))) else (some (0, 0, bt184.2.2)))) = some (r1, r2, r3) := h
  clear h
  replace H := Option.bind_eq_some_iff.mp H
  obtain ⟨⟨t184, t185, t186⟩, A30, H⟩ := H
  replace H : (if t186 = 0 then (if t184 > 2147483647 then (some (0, 0, 13)) else (some (wrap64 (t184), t185, 0))) else (some (0, 0, t186))) = some (r1, r2, r3) := H
  have A3 := Aside0.mk A30
  clear A30
  by_cases c4 : t186 = 0
  rotate_left
  · rw [if_neg c4] at H
    have c4b0 : (t186 == 0) = false := beq_eq_false_iff_ne.mpr c4
    have c4b1 : (t186 != 0) = true := bne_iff_ne.mpr c4
    simp only [Option.some.injEq, Prod.mk.injEq] at H
    obtain ⟨rfl, rfl, rfl⟩ := H
    go_enter Try.func62, Try.ntmps62
    go_wp2_with ((((with_reducible refine gate_callee (f := 46) rfl ?_); refine goesL_ (some 13) rfl rfl Try.func46 (by kernel_rfl) rfl #[.slice A0 l0.length c0, .int .i64 a1] rfl (by (try simp only [List.map_toArray, List.map_cons, List.map_nil]); (rfl)) ?_; (with_reducible refine (notaryref01_Get.calls k _ _ l0 a1 t184 t185 t186 _ ?side1 ?side2 A3.out).mono ?_); (case side1 => repeat (exact HR0.out)); (case side2 => exact HC0.out); rintro e w' ⟨rfl, ⟨nd, rfl⟩⟩; refine ⟨_, rfl, ?_⟩)))
    go_ret3
    exact ⟨by (rfl), by repeat (first | exact Drawn0.refl _ | apply Drawn0.step)⟩


  rw [if_pos c4] at H
  have c4b0 : (t186 == 0) = true := beq_iff_eq.mpr c4
  have c4b1 : (t186 != 0) = false := bne_eq_false_iff_eq.mpr c4
  clear c4
  by_cases c5 : t184 > 2147483647
  · rw [if_pos c5] at H
    have c5b0 : decide (2147483647 < t184) = true := decide_eq_true c5
    clear c5
    simp only [Option.some.injEq, Prod.mk.injEq] at H
    obtain ⟨rfl, rfl, rfl⟩ := H
    go_enter Try.func62, Try.ntmps62
    go_wp2_with ((((with_reducible refine gate_callee (f := 46) rfl ?_); refine goesL_ (some 13) rfl rfl Try.func46 (by kernel_rfl) rfl #[.slice A0 l0.length c0, .int .i64 a1] rfl (by (try simp only [List.map_toArray, List.map_cons, List.map_nil]); (rfl)) ?_; (with_reducible refine (notaryref01_Get.calls k _ _ l0 a1 t184 t185 t186 _ ?side1 ?side2 A3.out).mono ?_); (case side1 => repeat (exact HR0.out)); (case side2 => exact HC0.out); rintro e w' ⟨rfl, ⟨nd, rfl⟩⟩; refine ⟨_, rfl, ?_⟩)))
    go_ret3
    exact ⟨by (rfl), by repeat (first | exact Drawn0.refl _ | apply Drawn0.step)⟩
  rw [if_neg c5] at H
  have c5b0 : decide (2147483647 < t184) = false := decide_eq_false c5
  clear c5
  simp only [Option.some.injEq, Prod.mk.injEq] at H
  obtain ⟨rfl, rfl, rfl⟩ := H
  go_enter Try.func62, Try.ntmps62
  go_wp2_with ((((with_reducible refine gate_callee (f := 46) rfl ?_); refine goesL_ (some 13) rfl rfl Try.func46 (by kernel_rfl) rfl #[.slice A0 l0.length c0, .int .i64 a1] rfl (by (try simp only [List.map_toArray, List.map_cons, List.map_nil]); (rfl)) ?_; (with_reducible refine (notaryref01_Get.calls k _ _ l0 a1 t184 t185 t186 _ ?side1 ?side2 A3.out).mono ?_); (case side1 => repeat (exact HR0.out)); (case side2 => exact HC0.out); rintro e w' ⟨rfl, ⟨nd, rfl⟩⟩; refine ⟨_, rfl, ?_⟩)))
  go_ret3
  exact ⟨by (rfl), by repeat (first | exact Drawn0.refl _ | apply Drawn0.step)⟩/-! ### notaryref36_ReadList: function 49 -/
def notaryref36_ReadList.l0 : Nat → List Int → Int → List Int → Int → Int → Option (List Int × Int × Int)
  | 0, _, _, _, _, _ => none
  | k + 1, x0, x1, x7, x8, x10 => if x10 < x8 then ((notaryref36_Index.f k x0 x1).bind fun bt193 => (if bt193.2.2 = 0 then (if x7.length < 17592186044416 then (notaryref36_ReadList.l0 k x0 bt193.2.1 (x7 ++ [bt193.1]) x8 (IntKind.u64.wrap (x10 + 1))) else (none)) else (some (x7, 0, bt193.2.2)))) else (some (x7, x1, 0))
def notaryref36_ReadList.f (k : Nat) (l0 : List Int) (a1 : Int) : Option (List Int × Int × Int) := (some (([] : List Int) : List Int)).bind fun y187 => ((notaryref01_Get.f k l0 a1).bind fun bt190 => (if bt190.2.2 = 0 then (notaryref36_ReadList.l0 k l0 bt190.2.1 y187 bt190.1 0) else (some (y187, 0, bt190.2.2))))
set_option maxHeartbeats 8000000 in
set_option maxRecDepth 100000 in
theorem notaryref36_ReadList.calls (k : Nat) (A0 : Option Addr) (c0 : Nat) (l0 : List Int) (a1 : Int) (r1 : List Int) (r2 : Int) (r3 : Int) (w : World) (hr0 : Kd.C (Kd.int .u8) w A0 l0.length l0) (hc0 : l0.length ≤ c0) (h : notaryref36_ReadList.f k l0 a1 = some (r1, r2, r3)) :
    Calls Try.prog 49 #[.slice A0 l0.length c0, .int .i64 a1] w fun e w' => ∃ v0_ : Value, e = .returned (.tuple #[v0_, .int .i64 r2, .int .i64 r3]) ∧ Kd.R (Kd.int .i64) 3 w' w.heap.size (fun _ => True) v0_ r1 ∧ Below w.heap.size w w' := by
  have HR0 := Aside0.mk hr0
  have HC0 := Aside0.mk hc0
  clear hr0 hc0
  have HB := Aside0.mk (Below.refl w.heap.size w)
  have H : ((some (([] : List Int) : List Int)).bind fun y187 => ((notaryref01_Get.f k l0 a1).bind fun bt190 => (if bt190.2.2 = 0 then (notaryref36_ReadList.l0 k l0 bt190.2.1 y187 bt190.1 0) else (some (y187, 0, bt190.2.2))))) = some (r1, r2, r3) := h
  clear h
  obtain ⟨y187, hy187⟩ : ∃ y_ : List Int, y_ = ([] : List Int) := ⟨_, rfl⟩
  replace H : ((notaryref01_Get.f k l0 a1).bind fun bt190 => (if bt190.2.2 = 0 then (notaryref36_ReadList.l0 k l0 bt190.2.1 y187 bt190.1 0) else (some (y187, 0, bt190.2.2)))) = some (r1, r2, r3) := by ((have H2_ := (Option.bind_some _ _).symm.trans H; rw [hy187]; with_reducible exact H2_))
  have Ny187 := Aside0.mk hy187
  clear hy187
  replace H := Option.bind_eq_some_iff.mp H
  obtain ⟨⟨t190, t191, t192⟩, A30, H⟩ := H
  replace H : (if t192 = 0 then (notaryref36_ReadList.l0 k l0 t191 y187 t190 0) else (some (y187, 0, t192))) = some (r1, r2, r3) := H
  have A3 := Aside0.mk A30
  clear A30
  by_cases c4 : t192 = 0
  rotate_left
  · rw [if_neg c4] at H
    have c4b0 : (t192 == 0) = false := beq_eq_false_iff_ne.mpr c4
    have c4b1 : (t192 != 0) = true := bne_iff_ne.mpr c4
    simp only [Option.some.injEq, Prod.mk.injEq] at H
    obtain ⟨rfl, rfl, rfl⟩ := H
    go_enter Try.func49, Try.ntmps49
    go_wp2_with (first | ((with_reducible refine gate_dst (N := 14) rfl ?_); refine Kd.R_lit (Kd.int .i64) _ 3 ?hg (N := 14) ?hd (xs := ([] : List Int)) (inner := []) (ok := fun _ => True) (okp := fun _ => True) ?hr ?hp (fun _ hk => hk) trivial (Below.refl _ _) (Nat.le_refl _) (by simp) ?_; (case hd => rfl); (case hg => rfl); (case hr => (go_simp; done)); (case hp => exact (Reps.none _ _)); intro v188 w12 ho13 hb hg_ hnew_; clear hg_ hnew_; (rw [← Ny187.out] at ho13); have n0_ := Aside0.mk (Kd.R_lower ho13 (below_size HB.out)); have n1_ := Aside0.mk (below_step HB.out hb); clear HB; have HO189 := n0_; have HB := n1_; clear n0_ n1_; clear hb ho13) | ((with_reducible refine gate_callee (f := 46) rfl ?_); refine goesL_ (some 18) rfl rfl Try.func46 (by kernel_rfl) rfl #[.slice A0 l0.length c0, .int .i64 a1] rfl (by (try simp only [List.map_toArray, List.map_cons, List.map_nil]); (rfl)) ?_; (with_reducible refine (notaryref01_Get.calls k _ _ l0 a1 t190 t191 t192 _ ?side1 ?side2 A3.out).mono ?_); (case side1 => exact Kd.C_below HR0.out HB.out); (case side2 => exact HC0.out); rintro e w' ⟨rfl, ⟨nd, rfl⟩⟩; refine ⟨_, rfl, ?_⟩))
    go_ret3
    exact ⟨_, by (rfl), by (with_reducible repeat (apply Kd.R_drewN)); exact HO189.out, by repeat (with_reducible first | exact HB.out | apply pw_below_drewN)⟩

  rw [if_pos c4] at H
  have c4b0 : (t192 == 0) = true := beq_iff_eq.mpr c4
  have c4b1 : (t192 != 0) = false := bne_eq_false_iff_eq.mpr c4
  clear c4
  have H' := Aside0.mk H
  clear H
  go_enter Try.func49, Try.ntmps49
  go_wp2_with (first | ((with_reducible refine gate_dst (N := 14) rfl ?_); refine Kd.R_lit (Kd.int .i64) _ 3 ?hg (N := 14) ?hd (xs := ([] : List Int)) (inner := []) (ok := fun _ => True) (okp := fun _ => True) ?hr ?hp (fun _ hk => hk) trivial (Below.refl _ _) (Nat.le_refl _) (by simp) ?_; (case hd => rfl); (case hg => rfl); (case hr => (go_simp; done)); (case hp => exact (Reps.none _ _)); intro v188 w5 ho6 hb hg_ hnew_; clear hg_ hnew_; (rw [← Ny187.out] at ho6); have n0_ := Aside0.mk (Kd.R_lower ho6 (below_size HB.out)); have n1_ := Aside0.mk (below_step HB.out hb); clear HB; have HO189 := n0_; have HB := n1_; clear n0_ n1_; clear hb ho6) | ((with_reducible refine gate_callee (f := 46) rfl ?_); refine goesL_ (some 18) rfl rfl Try.func46 (by kernel_rfl) rfl #[.slice A0 l0.length c0, .int .i64 a1] rfl (by (try simp only [List.map_toArray, List.map_cons, List.map_nil]); (rfl)) ?_; (with_reducible refine (notaryref01_Get.calls k _ _ l0 a1 t190 t191 t192 _ ?side1 ?side2 A3.out).mono ?_); (case side1 => exact Kd.C_below HR0.out HB.out); (case side2 => exact HC0.out); rintro e w' ⟨rfl, ⟨nd, rfl⟩⟩; refine ⟨_, rfl, ?_⟩))
  go_loopg [1, 7, 10] k (fun kq v1 v7 v10 w' => ∃ (x1_1 : Int) (x7_1 : List Int) (x10_1 : Int), v1 = .int .i64 x1_1 ∧ v10 = .int .u64 x10_1 ∧ Aside0 (notaryref36_ReadList.l0 kq l0 x1_1 x7_1 t190 x10_1 = some (r1, r2, r3)) ∧ Aside0 (kq ≤ k) ∧ Aside0 (Kd.R (Kd.int .i64) 3 w' w.heap.size (fun _ => True) v7 x7_1) ∧ Aside0 (Below w.heap.size w w'))
  case atStart => exact ⟨(t191), (y187), (0), (by (rfl)), (by (rfl)), H', ⟨Nat.le_refl _⟩, ⟨by (with_reducible repeat (apply Kd.R_drewN)); exact HO189.out⟩, ⟨by repeat (with_reducible first | exact HB.out | apply pw_below_drewN)⟩⟩
  clear H'
  try clear c4b0
  try clear c4b1
  obtain ⟨x1_1, x7_1, x10_1, rfl, rfl, HA, HK1, HO_7, HB⟩ := hrel
  rcases gk with _ | k1
  · exact absurd HA.out (by simp [notaryref36_ReadList.l0])
  have H := HA.out
  clear HA
  simp only [notaryref36_ReadList.l0] at H
  by_cases c7 : x10_1 < t190
  rotate_left
  · rw [if_neg c7] at H
    have c7b0 : decide (x10_1 < t190) = false := decide_eq_false c7
    clear c7
    simp only [Option.some.injEq, Prod.mk.injEq] at H
    obtain ⟨rfl, rfl, rfl⟩ := H
    go_wp2
    go_ret3
    exact ⟨_, by (rfl), by exact HO_7.out, HB.out⟩
  rw [if_pos c7] at H
  have c7b0 : decide (x10_1 < t190) = true := decide_eq_true c7
  clear c7
  replace H := Option.bind_eq_some_iff.mp H
  obtain ⟨⟨t193, t194, t195⟩, A80, H⟩ := H
  replace H : (if t195 = 0 then (if x7_1.length < 17592186044416 then (notaryref36_ReadList.l0 k1 l0 t194 (x7_1 ++ [t193]) t190 (IntKind.u64.wrap (x10_1 + 1))) else (none)) else (some (x7_1, 0, t195))) = some (r1, r2, r3) := H
  have A8 := Aside0.mk A80
  clear A80
  by_cases c9 : t195 = 0
  rotate_left
  · rw [if_neg c9] at H
    have c9b0 : (t195 == 0) = false := beq_eq_false_iff_ne.mpr c9
    have c9b1 : (t195 != 0) = true := bne_iff_ne.mpr c9
    simp only [Option.some.injEq, Prod.mk.injEq] at H
    obtain ⟨rfl, rfl, rfl⟩ := H
    go_wp2_with ((((with_reducible refine gate_callee (f := 62) rfl ?_); refine goesL_ (some 34) rfl rfl Try.func62 (by kernel_rfl) rfl #[.slice A0 l0.length c0, .int .i64 x1_1] rfl (by (try simp only [List.map_toArray, List.map_cons, List.map_nil]); (rfl)) ?_; (with_reducible refine (notaryref36_Index.calls k1 _ _ l0 x1_1 t193 t194 t195 _ ?side1 ?side2 A8.out).mono ?_); (case side1 => exact Kd.C_below HR0.out HB.out); (case side2 => exact HC0.out); rintro e w' ⟨rfl, ⟨nd, rfl⟩⟩; refine ⟨_, rfl, ?_⟩)))
    go_ret3
    exact ⟨_, by (rfl), by (with_reducible repeat (apply Kd.R_drewN)); exact HO_7.out, by repeat (with_reducible first | exact HB.out | apply pw_below_drewN)⟩
  rw [if_pos c9] at H
  have c9b0 : (t195 == 0) = true := beq_iff_eq.mpr c9
  have c9b1 : (t195 != 0) = false := bne_eq_false_iff_eq.mpr c9
  clear c9
  by_cases c10 : x7_1.length < 17592186044416
  rotate_left
  · rw [if_neg c10] at H
    exact absurd H (by simp)
  rw [if_pos c10] at H
  have LMc10 := Aside0.mk c10
  clear c10
  obtain ⟨y196, hy196⟩ : ∃ y_ : List Int, y_ = (x7_1 ++ [t193]) := ⟨_, rfl⟩
  replace H : (notaryref36_ReadList.l0 k1 l0 t194 y196 t190 (IntKind.u64.wrap (x10_1 + 1))) = some (r1, r2, r3) := by (rw [hy196]; with_reducible exact H)
  have Ny196 := Aside0.mk hy196
  clear hy196
  have H' := Aside0.mk H
  clear H
  go_wp2_with (first | ((with_reducible refine gate_callee (f := 62) rfl ?_); refine goesL_ (some 34) rfl rfl Try.func62 (by kernel_rfl) rfl #[.slice A0 l0.length c0, .int .i64 x1_1] rfl (by (try simp only [List.map_toArray, List.map_cons, List.map_nil]); (rfl)) ?_; (with_reducible refine (notaryref36_Index.calls k1 _ _ l0 x1_1 t193 t194 t195 _ ?side1 ?side2 A8.out).mono ?_); (case side1 => exact Kd.C_below HR0.out HB.out); (case side2 => exact HC0.out); rintro e w' ⟨rfl, ⟨nd, rfl⟩⟩; refine ⟨_, rfl, ?_⟩) | ((with_reducible refine gate_builtin (b := .append) (xs := #[.tmp 42, .tmp 44]) rfl ?_); at_builtin; refine Kd.R_append (Kd.int .i64) (w0 := w) w.heap.size rfl (.tmp 42) (.tmp 44) 37 3 (.int .i64 0) 8 rfl Try.underlying37 info3 rfl (by decide) (by omega) u7 x7_1 t193 [.int .i64 t193] (fun _ => True) (fun _ => False) rfl rfl ?aP (fun _ hk => hk.elim) ?aF ?aO ?aB ?aS ?aL ?_; (case aP => exact rfl); (case aB => exact (by repeat (with_reducible first | exact HB.out | apply pw_below_drewN))); (case aF => exact (fun _ _ => trivial)); (case aO => exact (by (with_reducible repeat (apply Kd.R_drewN)); exact HO_7.out)); (case aS => exact (below_size (by repeat (with_reducible first | exact HB.out | apply pw_below_drewN)))); (case aL => have := LMc10.out; omega); intro v197 w11 ho hb hg hat; rw [← Ny196.out] at ho; have n0_ := Aside0.mk (hb); have n1_ := Aside0.mk (ho); clear HB; clear HO_7; have HB := n0_; have HO198 := n1_; clear n0_ n1_; clear ho hb hg hat))
  go_roundg k1
  case measure => have := HK1.out; omega
  case rel => exact ⟨(t194), (y196), (IntKind.u64.wrap (x10_1 + 1)), (by (rfl)), (by (rfl)), H', ⟨by have := HK1.out; omega⟩, ⟨by exact HO198.out⟩, ⟨HB.out⟩⟩
end Go.Proofs.Ytiamcmjdoobaeaa.PCe
