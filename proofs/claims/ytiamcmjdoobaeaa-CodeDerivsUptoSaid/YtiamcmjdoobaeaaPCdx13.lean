-- SLIM: a printed text of which the unused ways are cut off
-- PRINTED by print.py (a twelfth state) out of the translation. Not trusted: Lean checks it.
import Derived.Test.YtiamcmjdoobaeaaPCdx0
import Derived.Test.YtiamcmjdoobaeaaPCdx8
import Derived.Test.YtiamcmjdoobaeaaPCdx10
import Derived.Test.YtiamcmjdoobaeaaPCdx12
namespace Go.Proofs.Ytiamcmjdoobaeaa.PCd
open Go.RowKit Go.Proofs.YtiamcmjdoobaeaaW.PrintWords Go.Proofs.YtiamcmjdoobaeaaW.PrintLast Go.Proofs.YtiamcmjdoobaeaaW.PrintMore
attribute [local go_sem] max2_int min2_int max_two min_two max_three min_three max_four min_four   -- for this text's walks alone
set_option linter.unusedVariables false
set_option linter.unusedSimpArgs false

/-! ### notaryref36_Deriv: function 17 -/
mutual
def notaryref36_Deriv.j0 : Nat → Int → Bool → Int → List Int → Int → Bool → List Int → List Int → Int → Int → ByteArray → List (S25) → Int → Int → List (S42) → Option (List Int × Int)
  | 0, _, _, _, _, _, _, _, _, _, _, _, _, _, _, _ => none
  | k + 1, x1, x29, x263000, x263001, x263002, x263003, x263004, x263005, x263006, x263007, x263008, x263009, x263010, x263011, x263012 => if x29 = true then (some (([] : List Int), 23)) else (if x263000 = 3 then (if x263000 = 1 then (if (x263012.length : Int) > 0 then (notaryref36_Deriv.j1 k x1 true x263000 x263001 x263002 x263003 x263004 x263005 x263006 x263007 x263008 x263009 x263010 x263011 x263012) else (notaryref36_Deriv.j1 k x1 false x263000 x263001 x263002 x263003 x263004 x263005 x263006 x263007 x263008 x263009 x263010 x263011 x263012)) else ((notaryref35_Bare.f k x263002 x263003 x263004 x263005 x263006 x263007 x263008 x263009 x263010 x263011).bind fun t269 => (notaryref36_Deriv.j1 k x1 (!t269) x263000 x263001 x263002 x263003 x263004 x263005 x263006 x263007 x263008 x263009 x263010 x263011 x263012))) else (if (x263001.length : Int) > 0 then (notaryref36_Deriv.j1 k x1 true x263000 x263001 x263002 x263003 x263004 x263005 x263006 x263007 x263008 x263009 x263010 x263011 x263012) else (if x263000 = 1 then (if (x263012.length : Int) > 0 then (notaryref36_Deriv.j1 k x1 true x263000 x263001 x263002 x263003 x263004 x263005 x263006 x263007 x263008 x263009 x263010 x263011 x263012) else (notaryref36_Deriv.j1 k x1 false x263000 x263001 x263002 x263003 x263004 x263005 x263006 x263007 x263008 x263009 x263010 x263011 x263012)) else ((notaryref35_Bare.f k x263002 x263003 x263004 x263005 x263006 x263007 x263008 x263009 x263010 x263011).bind fun t270 => (notaryref36_Deriv.j1 k x1 (!t270) x263000 x263001 x263002 x263003 x263004 x263005 x263006 x263007 x263008 x263009 x263010 x263011 x263012)))))
def notaryref36_Deriv.j1 : Nat → Int → Bool → Int → List Int → Int → Bool → List Int → List Int → Int → Int → ByteArray → List (S25) → Int → Int → List (S42) → Option (List Int × Int)
  | 0, _, _, _, _, _, _, _, _, _, _, _, _, _, _, _ => none
  | k + 1, x1, x61, x263000, x263001, x263002, x263003, x263004, x263005, x263006, x263007, x263008, x263009, x263010, x263011, x263012 => if x61 = true then (some (([] : List Int), 2)) else ((some (([(x263000) % 256] : List Int) : List Int)).bind fun y274 => (if x263000 = 1 then ((notaryref36_Step.f k x263002 x263003 x263004 x263005 x263006 x263007 x263008 x263009 x263010 x263011).bind fun bt277 => (if y274.length + bt277.1.length < 140737488355328 then (some ((y274 ++ bt277.1), bt277.2)) else (none))) else (if x263000 = 3 then ((notaryref36_List.f k x263001).bind fun bt284 => (if bt284.2 = 0 then (if y274.length + bt284.1.length < 140737488355328 then (notaryref36_Deriv.j2 k x1 (y274 ++ bt284.1) x263000 x263001 x263002 x263003 x263004 x263005 x263006 x263007 x263008 x263009 x263010 x263011 x263012) else (none)) else (some (([] : List Int), bt284.2)))) else (notaryref36_Deriv.j2 k x1 y274 x263000 x263001 x263002 x263003 x263004 x263005 x263006 x263007 x263008 x263009 x263010 x263011 x263012))))
def notaryref36_Deriv.j2 : Nat → Int → List Int → Int → List Int → Int → Bool → List Int → List Int → Int → Int → ByteArray → List (S25) → Int → Int → List (S42) → Option (List Int × Int)
  | 0, _, _, _, _, _, _, _, _, _, _, _, _, _, _, _ => none
  | k + 1, x1, x6, x263000, x263001, x263002, x263003, x263004, x263005, x263006, x263007, x263008, x263009, x263010, x263011, x263012 => (notaryref01_Bytes.f k (IntKind.u64.wrap (x263012.length : Int))).bind fun t294 => (if x6.length + t294.length < 140737488355328 then (notaryref36_Deriv.l0 k x1 (x6 ++ t294) 0 x263000 x263001 x263002 x263003 x263004 x263005 x263006 x263007 x263008 x263009 x263010 x263011 x263012) else (none))
def notaryref36_Deriv.l0 : Nat → Int → List Int → Int → Int → List Int → Int → Bool → List Int → List Int → Int → Int → ByteArray → List (S25) → Int → Int → List (S42) → Option (List Int × Int)
  | 0, _, _, _, _, _, _, _, _, _, _, _, _, _, _, _, _ => none
  | k + 1, x1, x6, x11, x263000, x263001, x263002, x263003, x263004, x263005, x263006, x263007, x263008, x263009, x263010, x263011, x263012 => if x11 < (x263012.length : Int) then (if 0 ≤ x11 then ((notaryref36_Deriv.f k ((rd_T42 x263012 x11).f0) ((rd_T42 x263012 x11).f1) ((rd_T42 x263012 x11).f2.f0) ((rd_T42 x263012 x11).f2.f1) ((rd_T42 x263012 x11).f2.f2) ((rd_T42 x263012 x11).f2.f3) ((rd_T42 x263012 x11).f2.f4.f0) ((rd_T42 x263012 x11).f2.f4.f1) ((rd_T42 x263012 x11).f2.f4.f2) ((rd_T42 x263012 x11).f2.f4.f3) ((rd_T42 x263012 x11).f2.f4.f4) ((rd_T42 x263012 x11).f2.f4.f5) ((rd_T42 x263012 x11).f3) (wrap64 (x1 + 1))).bind fun bt301 => (if bt301.2 = 0 then (if x6.length + bt301.1.length < 140737488355328 then (notaryref36_Deriv.l0 k x1 (x6 ++ bt301.1) (wrap64 (x11 + 1)) x263000 x263001 x263002 x263003 x263004 x263005 x263006 x263007 x263008 x263009 x263010 x263011 x263012) else (none)) else (some (([] : List Int), bt301.2)))) else (none)) else (some (x6, 0))
def notaryref36_Deriv.f : Nat → Int → List Int → Int → Bool → List Int → List Int → Int → Int → ByteArray → List (S25) → Int → Int → List (S42) → Int → Option (List Int × Int)
  | 0, _, _, _, _, _, _, _, _, _, _, _, _, _, _ => none
  | k + 1, a0_0, l0_1, a0_2, a0_3, l0_4, l0_5, a0_6, a0_7, a0_8, l0_9, a0_10, a0_11, l0_12, a1 => if a1 > 64 then (some (([] : List Int), 7)) else (if a0_0 = 1 then (notaryref36_Deriv.j0 k a1 false a0_0 l0_1 a0_2 a0_3 l0_4 l0_5 a0_6 a0_7 a0_8 l0_9 a0_10 a0_11 l0_12) else (if a0_0 = 2 then (notaryref36_Deriv.j0 k a1 false a0_0 l0_1 a0_2 a0_3 l0_4 l0_5 a0_6 a0_7 a0_8 l0_9 a0_10 a0_11 l0_12) else (notaryref36_Deriv.j0 k a1 (a0_0 != 3) a0_0 l0_1 a0_2 a0_3 l0_4 l0_5 a0_6 a0_7 a0_8 l0_9 a0_10 a0_11 l0_12)))
end
set_option maxHeartbeats 8000000 in
set_option maxRecDepth 100000 in
theorem notaryref36_Deriv.calls (k : Nat) : ∀ (a0_0 : Int) (A0_1 : Option Addr) (c0_1 : Nat) (l0_1 : List Int) (a0_2 : Int) (a0_3 : Bool) (A0_4 : Option Addr) (c0_4 : Nat) (l0_4 : List Int) (A0_5 : Option Addr) (c0_5 : Nat) (l0_5 : List Int) (a0_6 : Int) (a0_7 : Int) (a0_8 : ByteArray) (A0_9 : Option Addr) (c0_9 : Nat) (l0_9 : List (S25)) (a0_10 : Int) (a0_11 : Int) (A0_12 : Option Addr) (c0_12 : Nat) (l0_12 : List (S42)) (a1 : Int) (r1 : List Int) (r2 : Int) (w : World) (hr0_1 : Kd.C (Kd.int .i64) w A0_1 l0_1.length l0_1) (hc0_1 : l0_1.length ≤ c0_1) (hr0_4 : Kd.C (Kd.int .i64) w A0_4 l0_4.length l0_4) (hc0_4 : l0_4.length ≤ c0_4) (hr0_5 : Kd.C (Kd.int .i64) w A0_5 l0_5.length l0_5) (hc0_5 : l0_5.length ≤ c0_5) (hr0_9 : Kd.C k25 w A0_9 l0_9.length l0_9) (hc0_9 : l0_9.length ≤ c0_9) (hr0_12 : Kd.C k42 w A0_12 l0_12.length l0_12) (hc0_12 : l0_12.length ≤ c0_12) (h : notaryref36_Deriv.f k a0_0 l0_1 a0_2 a0_3 l0_4 l0_5 a0_6 a0_7 a0_8 l0_9 a0_10 a0_11 l0_12 a1 = some (r1, r2)),
    Calls Try.prog 17 #[.agg #[.int .i64 a0_0, .slice A0_1 l0_1.length c0_1, .int .i64 a0_2, .bool a0_3, .slice A0_4 l0_4.length c0_4, .slice A0_5 l0_5.length c0_5, .int .i64 a0_6, .int .i64 a0_7, .string a0_8, .slice A0_9 l0_9.length c0_9, .int .i64 a0_10, .int .i64 a0_11, .slice A0_12 l0_12.length c0_12], .int .i64 a1] w fun e w' => ∃ v0_ : Value, e = .returned (.tuple #[v0_, .int .i64 r2]) ∧ Kd.R (Kd.int .u8) 5 w' w.heap.size (fun _ => True) v0_ r1 ∧ Below w.heap.size w w' := by
  induction k using Nat.strongRecOn with
  | _ k ih =>
  intro a0_0 A0_1 c0_1 l0_1 a0_2 a0_3 A0_4 c0_4 l0_4 A0_5 c0_5 l0_5 a0_6 a0_7 a0_8 A0_9 c0_9 l0_9 a0_10 a0_11 A0_12 c0_12 l0_12 a1 r1 r2 w hr0_1 hc0_1 hr0_4 hc0_4 hr0_5 hc0_5 hr0_9 hc0_9 hr0_12 hc0_12 h
  cases k with
  | zero => exact absurd h (by simp [notaryref36_Deriv.f])
  | succ k =>
  simp only [notaryref36_Deriv.f] at h
  have hu42 := Try.underlying42
  have hu39 := Try.underlying39
  have HR0_1 := Aside0.mk hr0_1
  have HC0_1 := Aside0.mk hc0_1
  clear hr0_1 hc0_1
  have HR0_4 := Aside0.mk hr0_4
  have HC0_4 := Aside0.mk hc0_4
  clear hr0_4 hc0_4
  have HR0_5 := Aside0.mk hr0_5
  have HC0_5 := Aside0.mk hc0_5
  clear hr0_5 hc0_5
  have HR0_9 := Aside0.mk hr0_9
  have HC0_9 := Aside0.mk hc0_9
  clear hr0_9 hc0_9
  have HR0_12 := Aside0.mk hr0_12
  have HC0_12 := Aside0.mk hc0_12
  clear hr0_12 hc0_12
  have HB := Aside0.mk (Below.refl w.heap.size w)
  have H : (if a1 > 64 then (some (([] : List Int), 7)) else (if a0_0 = 1 then (notaryref36_Deriv.j0 k a1 false a0_0 l0_1 a0_2 a0_3 l0_4 l0_5 a0_6 a0_7 a0_8 l0_9 a0_10 a0_11 l0_12) else (if a0_0 = 2 then (notaryref36_Deriv.j0 k a1 false a0_0 l0_1 a0_2 a0_3 l0_4 l0_5 a0_6 a0_7 a0_8 l0_9 a0_10 a0_11 l0_12) else (notaryref36_Deriv.j0 k a1 (a0_0 != 3) a0_0 l0_1 a0_2 a0_3 l0_4 l0_5 a0_6 a0_7 a0_8 l0_9 a0_10 a0_11 l0_12)))) = some (r1, r2) := h
  clear h
  by_cases c3 : a1 > 64
  · rw [if_pos c3] at H
    have c3b0 : decide (64 < a1) = true := decide_eq_true c3
    clear c3
    obtain ⟨y263, hy263⟩ : ∃ y_ : List Int, y_ = ([] : List Int) := ⟨_, rfl⟩
    replace H : (some (y263, 7)) = some (r1, r2) := by (rw [hy263]; with_reducible exact H)
    have Ny263 := Aside0.mk hy263
    clear hy263
    simp only [Option.some.injEq, Prod.mk.injEq] at H
    obtain ⟨rfl, rfl⟩ := H
    go_enter Try.func17, Try.ntmps17
    go_wp2_with (first | ((with_reducible refine gate_dst (N := 2) rfl ?_); (try (refine gate_guard (by rfl) ?_; dsimp only)); refine box_event ?hg (N := 2) ?hd (cs := #[.int .i64 a0_0, .slice A0_1 l0_1.length c0_1, .int .i64 a0_2, .bool a0_3, .slice A0_4 l0_4.length c0_4, .slice A0_5 l0_5.length c0_5, .int .i64 a0_6, .int .i64 a0_7, .string a0_8, .slice A0_9 l0_9.length c0_9, .int .i64 a0_10, .int .i64 a0_11, .slice A0_12 l0_12.length c0_12]) (t := 42) ?hr ?_; (case hd => rfl); (case hg => rfl); (case hr => (go_simp; done)); intro gb262 hg w4 hbox hb; have n0_ := Aside0.mk (below_step HB.out hb); have n1_ := Aside0.mk (hbox); have n2_ := Aside0.mk ((by rw [hg]; exact (below_size HB.out) : w.heap.size ≤ gb262)); have n3_ := Aside0.mk ((by rw [hg]; exact (below_size HB.out) : w.heap.size ≤ gb262)); clear HB; have HB := n0_; have BK262 := n1_; have GW262 := n2_; have GE262 := n3_; clear n0_ n1_ n2_ n3_; clear hb hbox hg) | ((with_reducible refine gate_dst (N := 16) rfl ?_); (try (refine gate_guard (by rfl) ?_; dsimp only)); refine Kd.R_lit (Kd.int .u8) _ 5 ?hg (N := 16) ?hd (xs := ([] : List Int)) (inner := []) (ok := fun _ => True) (okp := fun _ => True) ?hr ?hp (fun _ hk => hk) trivial (Below.refl _ _) (Nat.le_refl _) (by simp) ?_; (case hd => rfl); (case hg => rfl); (case hr => (go_simp; done)); (case hp => exact (Reps.none _ _)); intro v264 w5 ho6 hb hg_ hnew_; clear hg_ hnew_; (rw [← Ny263.out] at ho6); have n0_ := Aside0.mk (Kd.R_lower ho6 (below_size HB.out)); have n1_ := Aside0.mk (blk_below (g := gb262) (o := .cells #[.int .i64 a0_0, .slice A0_1 l0_1.length c0_1, .int .i64 a0_2, .bool a0_3, .slice A0_4 l0_4.length c0_4, .slice A0_5 l0_5.length c0_5, .int .i64 a0_6, .int .i64 a0_7, .string a0_8, .slice A0_9 l0_9.length c0_9, .int .i64 a0_10, .int .i64 a0_11, .slice A0_12 l0_12.length c0_12] 42 (0, 0)) (by exact BK262.out) hb); have n2_ := Aside0.mk (below_step HB.out hb); clear BK262; clear HB; have HO265 := n0_; have BK262 := n1_; have HB := n2_; clear n0_ n1_ n2_; clear hb ho6))
    go_ret2
    exact ⟨_, by (rfl), by exact HO265.out, HB.out⟩
  rw [if_neg c3] at H
  have c3b0 : decide (64 < a1) = false := decide_eq_false c3
  clear c3
  have HC7 := Aside0.mk H
  clear H
  go_enter Try.func17, Try.ntmps17
  go_upto_region 3 with ((((with_reducible refine gate_dst (N := 2) rfl ?_); (try (refine gate_guard (by rfl) ?_; dsimp only)); refine box_event ?hg (N := 2) ?hd (cs := #[.int .i64 a0_0, .slice A0_1 l0_1.length c0_1, .int .i64 a0_2, .bool a0_3, .slice A0_4 l0_4.length c0_4, .slice A0_5 l0_5.length c0_5, .int .i64 a0_6, .int .i64 a0_7, .string a0_8, .slice A0_9 l0_9.length c0_9, .int .i64 a0_10, .int .i64 a0_11, .slice A0_12 l0_12.length c0_12]) (t := 42) ?hr ?_; (case hd => rfl); (case hg => rfl); (case hr => (go_simp; done)); intro gb262 hg w8 hbox hb; have n0_ := Aside0.mk (below_step HB.out hb); have n1_ := Aside0.mk (hbox); have n2_ := Aside0.mk ((by rw [hg]; exact (below_size HB.out) : w.heap.size ≤ gb262)); have n3_ := Aside0.mk ((by rw [hg]; exact (below_size HB.out) : w.heap.size ≤ gb262)); clear HB; have HB := n0_; have BK262 := n1_; have GW262 := n2_; have GE262 := n3_; clear n0_ n1_ n2_ n3_; clear hb hbox hg)))
  (skip)
  go_cut [29] (fun v29 wc => ∃ (kq : Nat) (x29_6 : Bool), v29 = .bool x29_6 ∧ Aside0 (notaryref36_Deriv.j0 kq a1 x29_6 a0_0 l0_1 a0_2 a0_3 l0_4 l0_5 a0_6 a0_7 a0_8 l0_9 a0_10 a0_11 l0_12 = some (r1, r2)) ∧ Aside0 (kq ≤ k) ∧ Aside0 (wc.heap[gb262]? = some (.cells #[.int .i64 a0_0, (.slice A0_1 l0_1.length c0_1), .int .i64 a0_2, .bool a0_3, (.slice A0_4 l0_4.length c0_4), (.slice A0_5 l0_5.length c0_5), .int .i64 a0_6, .int .i64 a0_7, .string a0_8, (.slice A0_9 l0_9.length c0_9), .int .i64 a0_10, .int .i64 a0_11, (.slice A0_12 l0_12.length c0_12)] 42 (0, 0))) ∧ Aside0 (Below w.heap.size w wc))
  case first =>
    have H := HC7.out
    clear HC7
    by_cases c9 : a0_0 = 1
    · rw [if_pos c9] at H
      have c9b0 : (a0_0 == 1) = true := beq_iff_eq.mpr c9
      have c9b1 : (a0_0 != 1) = false := bne_eq_false_iff_eq.mpr c9
      clear c9
      (skip)
      have H' := Aside0.mk H
      clear H
      have hcz10_0 : w8.cell? ⟨gb262, 0, none⟩ = some (.int .i64 a0_0) := (blk_cell BK262.out 0).trans rfl
      have hcz10_1 : w8.cell? ⟨gb262, 1, none⟩ = some (.slice A0_1 l0_1.length c0_1) := (blk_cell BK262.out 1).trans rfl
      have hcz10_2 : w8.cell? ⟨gb262, 2, none⟩ = some (.int .i64 a0_2) := (blk_cell BK262.out 2).trans rfl
      have hcz10_3 : w8.cell? ⟨gb262, 3, none⟩ = some (.bool a0_3) := (blk_cell BK262.out 3).trans rfl
      have hcz10_4 : w8.cell? ⟨gb262, 4, none⟩ = some (.slice A0_4 l0_4.length c0_4) := (blk_cell BK262.out 4).trans rfl
      have hcz10_5 : w8.cell? ⟨gb262, 5, none⟩ = some (.slice A0_5 l0_5.length c0_5) := (blk_cell BK262.out 5).trans rfl
      have hcz10_6 : w8.cell? ⟨gb262, 6, none⟩ = some (.int .i64 a0_6) := (blk_cell BK262.out 6).trans rfl
      have hcz10_7 : w8.cell? ⟨gb262, 7, none⟩ = some (.int .i64 a0_7) := (blk_cell BK262.out 7).trans rfl
      have hcz10_8 : w8.cell? ⟨gb262, 8, none⟩ = some (.string a0_8) := (blk_cell BK262.out 8).trans rfl
      have hcz10_9 : w8.cell? ⟨gb262, 9, none⟩ = some (.slice A0_9 l0_9.length c0_9) := (blk_cell BK262.out 9).trans rfl
      have hcz10_10 : w8.cell? ⟨gb262, 10, none⟩ = some (.int .i64 a0_10) := (blk_cell BK262.out 10).trans rfl
      have hcz10_11 : w8.cell? ⟨gb262, 11, none⟩ = some (.int .i64 a0_11) := (blk_cell BK262.out 11).trans rfl
      have hcz10_12 : w8.cell? ⟨gb262, 12, none⟩ = some (.slice A0_12 l0_12.length c0_12) := (blk_cell BK262.out 12).trans rfl
      have hfz10_0 := blk_frozen BK262.out 0
      have hfz10_1 := blk_frozen BK262.out 1
      have hfz10_2 := blk_frozen BK262.out 2
      have hfz10_3 := blk_frozen BK262.out 3
      have hfz10_4 := blk_frozen BK262.out 4
      have hfz10_5 := blk_frozen BK262.out 5
      have hfz10_6 := blk_frozen BK262.out 6
      have hfz10_7 := blk_frozen BK262.out 7
      have hfz10_8 := blk_frozen BK262.out 8
      have hfz10_9 := blk_frozen BK262.out 9
      have hfz10_10 := blk_frozen BK262.out 10
      have hfz10_11 := blk_frozen BK262.out 11
      have hfz10_12 := blk_frozen BK262.out 12
      go_wp2
      go_meet
      case rel => exact ⟨_, (false), (by (rfl)), H', ⟨by (omega)⟩, ⟨by exact BK262.out⟩, ⟨HB.out⟩⟩
    rw [if_neg c9] at H
    have c9b0 : (a0_0 == 1) = false := beq_eq_false_iff_ne.mpr c9
    have c9b1 : (a0_0 != 1) = true := bne_iff_ne.mpr c9
    (skip)
    by_cases c11 : a0_0 = 2
    rotate_left
    · rw [if_neg c11] at H
      have c11b0 : (a0_0 == 2) = false := beq_eq_false_iff_ne.mpr c11
      have c11b1 : (a0_0 != 2) = true := bne_iff_ne.mpr c11
      have H' := Aside0.mk H
      clear H
      have hcz13_0 : w8.cell? ⟨gb262, 0, none⟩ = some (.int .i64 a0_0) := (blk_cell BK262.out 0).trans rfl
      have hcz13_1 : w8.cell? ⟨gb262, 1, none⟩ = some (.slice A0_1 l0_1.length c0_1) := (blk_cell BK262.out 1).trans rfl
      have hcz13_2 : w8.cell? ⟨gb262, 2, none⟩ = some (.int .i64 a0_2) := (blk_cell BK262.out 2).trans rfl
      have hcz13_3 : w8.cell? ⟨gb262, 3, none⟩ = some (.bool a0_3) := (blk_cell BK262.out 3).trans rfl
      have hcz13_4 : w8.cell? ⟨gb262, 4, none⟩ = some (.slice A0_4 l0_4.length c0_4) := (blk_cell BK262.out 4).trans rfl
      have hcz13_5 : w8.cell? ⟨gb262, 5, none⟩ = some (.slice A0_5 l0_5.length c0_5) := (blk_cell BK262.out 5).trans rfl
      have hcz13_6 : w8.cell? ⟨gb262, 6, none⟩ = some (.int .i64 a0_6) := (blk_cell BK262.out 6).trans rfl
      have hcz13_7 : w8.cell? ⟨gb262, 7, none⟩ = some (.int .i64 a0_7) := (blk_cell BK262.out 7).trans rfl
      have hcz13_8 : w8.cell? ⟨gb262, 8, none⟩ = some (.string a0_8) := (blk_cell BK262.out 8).trans rfl
      have hcz13_9 : w8.cell? ⟨gb262, 9, none⟩ = some (.slice A0_9 l0_9.length c0_9) := (blk_cell BK262.out 9).trans rfl
      have hcz13_10 : w8.cell? ⟨gb262, 10, none⟩ = some (.int .i64 a0_10) := (blk_cell BK262.out 10).trans rfl
      have hcz13_11 : w8.cell? ⟨gb262, 11, none⟩ = some (.int .i64 a0_11) := (blk_cell BK262.out 11).trans rfl
      have hcz13_12 : w8.cell? ⟨gb262, 12, none⟩ = some (.slice A0_12 l0_12.length c0_12) := (blk_cell BK262.out 12).trans rfl
      have hfz13_0 := blk_frozen BK262.out 0
      have hfz13_1 := blk_frozen BK262.out 1
      have hfz13_2 := blk_frozen BK262.out 2
      have hfz13_3 := blk_frozen BK262.out 3
      have hfz13_4 := blk_frozen BK262.out 4
      have hfz13_5 := blk_frozen BK262.out 5
      have hfz13_6 := blk_frozen BK262.out 6
      have hfz13_7 := blk_frozen BK262.out 7
      have hfz13_8 := blk_frozen BK262.out 8
      have hfz13_9 := blk_frozen BK262.out 9
      have hfz13_10 := blk_frozen BK262.out 10
      have hfz13_11 := blk_frozen BK262.out 11
      have hfz13_12 := blk_frozen BK262.out 12
      go_wp2
      go_meet
      case rel => exact ⟨_, (a0_0 != 3), (by (rfl)), H', ⟨by (omega)⟩, ⟨by exact BK262.out⟩, ⟨HB.out⟩⟩
    rw [if_pos c11] at H
    have c11b0 : (a0_0 == 2) = true := beq_iff_eq.mpr c11
    have c11b1 : (a0_0 != 2) = false := bne_eq_false_iff_eq.mpr c11
    clear c11
    have H' := Aside0.mk H
    clear H
    have hcz12_0 : w8.cell? ⟨gb262, 0, none⟩ = some (.int .i64 a0_0) := (blk_cell BK262.out 0).trans rfl
    have hcz12_1 : w8.cell? ⟨gb262, 1, none⟩ = some (.slice A0_1 l0_1.length c0_1) := (blk_cell BK262.out 1).trans rfl
    have hcz12_2 : w8.cell? ⟨gb262, 2, none⟩ = some (.int .i64 a0_2) := (blk_cell BK262.out 2).trans rfl
    have hcz12_3 : w8.cell? ⟨gb262, 3, none⟩ = some (.bool a0_3) := (blk_cell BK262.out 3).trans rfl
    have hcz12_4 : w8.cell? ⟨gb262, 4, none⟩ = some (.slice A0_4 l0_4.length c0_4) := (blk_cell BK262.out 4).trans rfl
    have hcz12_5 : w8.cell? ⟨gb262, 5, none⟩ = some (.slice A0_5 l0_5.length c0_5) := (blk_cell BK262.out 5).trans rfl
    have hcz12_6 : w8.cell? ⟨gb262, 6, none⟩ = some (.int .i64 a0_6) := (blk_cell BK262.out 6).trans rfl
    have hcz12_7 : w8.cell? ⟨gb262, 7, none⟩ = some (.int .i64 a0_7) := (blk_cell BK262.out 7).trans rfl
    have hcz12_8 : w8.cell? ⟨gb262, 8, none⟩ = some (.string a0_8) := (blk_cell BK262.out 8).trans rfl
    have hcz12_9 : w8.cell? ⟨gb262, 9, none⟩ = some (.slice A0_9 l0_9.length c0_9) := (blk_cell BK262.out 9).trans rfl
    have hcz12_10 : w8.cell? ⟨gb262, 10, none⟩ = some (.int .i64 a0_10) := (blk_cell BK262.out 10).trans rfl
    have hcz12_11 : w8.cell? ⟨gb262, 11, none⟩ = some (.int .i64 a0_11) := (blk_cell BK262.out 11).trans rfl
    have hcz12_12 : w8.cell? ⟨gb262, 12, none⟩ = some (.slice A0_12 l0_12.length c0_12) := (blk_cell BK262.out 12).trans rfl
    have hfz12_0 := blk_frozen BK262.out 0
    have hfz12_1 := blk_frozen BK262.out 1
    have hfz12_2 := blk_frozen BK262.out 2
    have hfz12_3 := blk_frozen BK262.out 3
    have hfz12_4 := blk_frozen BK262.out 4
    have hfz12_5 := blk_frozen BK262.out 5
    have hfz12_6 := blk_frozen BK262.out 6
    have hfz12_7 := blk_frozen BK262.out 7
    have hfz12_8 := blk_frozen BK262.out 8
    have hfz12_9 := blk_frozen BK262.out 9
    have hfz12_10 := blk_frozen BK262.out 10
    have hfz12_11 := blk_frozen BK262.out 11
    have hfz12_12 := blk_frozen BK262.out 12
    go_wp2
    go_meet
    case rel => exact ⟨_, (false), (by (rfl)), H', ⟨by (omega)⟩, ⟨by exact BK262.out⟩, ⟨HB.out⟩⟩
  clear HC7
  try clear c3b0
  obtain ⟨kq, x29_6, rfl, HA, HJ6, BK262, HB⟩ := hcut
  rcases kq with _ | kj6
  · exact absurd HA.out (by simp [notaryref36_Deriv.j0])
  have H := HA.out
  clear HA
  simp only [notaryref36_Deriv.j0] at H
  by_cases c14 : x29_6 = true
  · subst c14
    have H1 : (some (([] : List Int), 23)) = some (r1, r2) := by rw [if_pos rfl] at H; exact H
    clear H
    have H := H1
    clear H1
    obtain ⟨y266, hy266⟩ : ∃ y_ : List Int, y_ = ([] : List Int) := ⟨_, rfl⟩
    replace H : (some (y266, 23)) = some (r1, r2) := by (rw [hy266]; with_reducible exact H)
    have Ny266 := Aside0.mk hy266
    clear hy266
    simp only [Option.some.injEq, Prod.mk.injEq] at H
    obtain ⟨rfl, rfl⟩ := H
    go_wp2_with ((((with_reducible refine gate_dst (N := 30) rfl ?_); (try (refine gate_guard (by rfl) ?_; dsimp only)); refine Kd.R_lit (Kd.int .u8) _ 5 ?hg (N := 30) ?hd (xs := ([] : List Int)) (inner := []) (ok := fun _ => True) (okp := fun _ => True) ?hr ?hp (fun _ hk => hk) trivial (Below.refl _ _) (Nat.le_refl _) (by simp) ?_; (case hd => rfl); (case hg => rfl); (case hr => (go_simp; done)); (case hp => exact (Reps.none _ _)); intro v267 w15 ho16 hb hg_ hnew_; clear hg_ hnew_; (rw [← Ny266.out] at ho16); have n0_ := Aside0.mk (Kd.R_lower ho16 (below_size HB.out)); have n1_ := Aside0.mk (blk_below (g := gb262) (o := .cells #[.int .i64 a0_0, .slice A0_1 l0_1.length c0_1, .int .i64 a0_2, .bool a0_3, .slice A0_4 l0_4.length c0_4, .slice A0_5 l0_5.length c0_5, .int .i64 a0_6, .int .i64 a0_7, .string a0_8, .slice A0_9 l0_9.length c0_9, .int .i64 a0_10, .int .i64 a0_11, .slice A0_12 l0_12.length c0_12] 42 (0, 0)) (by exact BK262.out) hb); have n2_ := Aside0.mk (below_step HB.out hb); clear BK262; clear HB; have HO268 := n0_; have BK262 := n1_; have HB := n2_; clear n0_ n1_ n2_; clear hb ho16)))
    go_ret2
    exact ⟨_, by (rfl), by exact HO268.out, HB.out⟩
  replace c14 := Bool.eq_false_iff.mpr c14
  subst c14
  have H1 : (if a0_0 = 3 then (if a0_0 = 1 then (if (l0_12.length : Int) > 0 then (notaryref36_Deriv.j1 kj6 a1 true a0_0 l0_1 a0_2 a0_3 l0_4 l0_5 a0_6 a0_7 a0_8 l0_9 a0_10 a0_11 l0_12) else (notaryref36_Deriv.j1 kj6 a1 false a0_0 l0_1 a0_2 a0_3 l0_4 l0_5 a0_6 a0_7 a0_8 l0_9 a0_10 a0_11 l0_12)) else ((notaryref35_Bare.f kj6 a0_2 a0_3 l0_4 l0_5 a0_6 a0_7 a0_8 l0_9 a0_10 a0_11).bind fun t269 => (notaryref36_Deriv.j1 kj6 a1 (!t269) a0_0 l0_1 a0_2 a0_3 l0_4 l0_5 a0_6 a0_7 a0_8 l0_9 a0_10 a0_11 l0_12))) else (if (l0_1.length : Int) > 0 then (notaryref36_Deriv.j1 kj6 a1 true a0_0 l0_1 a0_2 a0_3 l0_4 l0_5 a0_6 a0_7 a0_8 l0_9 a0_10 a0_11 l0_12) else (if a0_0 = 1 then (if (l0_12.length : Int) > 0 then (notaryref36_Deriv.j1 kj6 a1 true a0_0 l0_1 a0_2 a0_3 l0_4 l0_5 a0_6 a0_7 a0_8 l0_9 a0_10 a0_11 l0_12) else (notaryref36_Deriv.j1 kj6 a1 false a0_0 l0_1 a0_2 a0_3 l0_4 l0_5 a0_6 a0_7 a0_8 l0_9 a0_10 a0_11 l0_12)) else ((notaryref35_Bare.f kj6 a0_2 a0_3 l0_4 l0_5 a0_6 a0_7 a0_8 l0_9 a0_10 a0_11).bind fun t270 => (notaryref36_Deriv.j1 kj6 a1 (!t270) a0_0 l0_1 a0_2 a0_3 l0_4 l0_5 a0_6 a0_7 a0_8 l0_9 a0_10 a0_11 l0_12))))) = some (r1, r2) := by rw [if_neg (show ¬ (false = true) by decide)] at H; exact H
  clear H
  have H := H1
  clear H1
  have HC17 := Aside0.mk H
  clear H
  go_upto_region 5 with (fail)
  go_cut [61] (fun v61 wc => ∃ (kq : Nat) (x61_16 : Bool), v61 = .bool x61_16 ∧ Aside0 (notaryref36_Deriv.j1 kq a1 x61_16 a0_0 l0_1 a0_2 a0_3 l0_4 l0_5 a0_6 a0_7 a0_8 l0_9 a0_10 a0_11 l0_12 = some (r1, r2)) ∧ Aside0 (kq ≤ kj6) ∧ Aside0 (wc.heap[gb262]? = some (.cells #[.int .i64 a0_0, (.slice A0_1 l0_1.length c0_1), .int .i64 a0_2, .bool a0_3, (.slice A0_4 l0_4.length c0_4), (.slice A0_5 l0_5.length c0_5), .int .i64 a0_6, .int .i64 a0_7, .string a0_8, (.slice A0_9 l0_9.length c0_9), .int .i64 a0_10, .int .i64 a0_11, (.slice A0_12 l0_12.length c0_12)] 42 (0, 0))) ∧ Aside0 (Below w.heap.size w wc))
  case first =>
    have H := HC17.out
    clear HC17
    by_cases c18 : a0_0 = 3
    · rw [if_pos c18] at H
      have c18b0 : (a0_0 == 3) = true := beq_iff_eq.mpr c18
      have c18b1 : (a0_0 != 3) = false := bne_eq_false_iff_eq.mpr c18
      clear c18
      (skip)
      by_cases c19 : a0_0 = 1
      rotate_left
      · rw [if_neg c19] at H
        have c19b0 : (a0_0 == 1) = false := beq_eq_false_iff_ne.mpr c19
        have c19b1 : (a0_0 != 1) = true := bne_iff_ne.mpr c19
        replace H := Option.bind_eq_some_iff.mp H
        obtain ⟨t269, A230, H⟩ := H
        replace H : (notaryref36_Deriv.j1 kj6 a1 (!t269) a0_0 l0_1 a0_2 a0_3 l0_4 l0_5 a0_6 a0_7 a0_8 l0_9 a0_10 a0_11 l0_12) = some (r1, r2) := H
        have A23 := Aside0.mk A230
        clear A230
        have H' := Aside0.mk H
        clear H
        have hcz24_0 : wc.cell? ⟨gb262, 0, none⟩ = some (.int .i64 a0_0) := (blk_cell BK262.out 0).trans rfl
        have hcz24_1 : wc.cell? ⟨gb262, 1, none⟩ = some (.slice A0_1 l0_1.length c0_1) := (blk_cell BK262.out 1).trans rfl
        have hcz24_2 : wc.cell? ⟨gb262, 2, none⟩ = some (.int .i64 a0_2) := (blk_cell BK262.out 2).trans rfl
        have hcz24_3 : wc.cell? ⟨gb262, 3, none⟩ = some (.bool a0_3) := (blk_cell BK262.out 3).trans rfl
        have hcz24_4 : wc.cell? ⟨gb262, 4, none⟩ = some (.slice A0_4 l0_4.length c0_4) := (blk_cell BK262.out 4).trans rfl
        have hcz24_5 : wc.cell? ⟨gb262, 5, none⟩ = some (.slice A0_5 l0_5.length c0_5) := (blk_cell BK262.out 5).trans rfl
        have hcz24_6 : wc.cell? ⟨gb262, 6, none⟩ = some (.int .i64 a0_6) := (blk_cell BK262.out 6).trans rfl
        have hcz24_7 : wc.cell? ⟨gb262, 7, none⟩ = some (.int .i64 a0_7) := (blk_cell BK262.out 7).trans rfl
        have hcz24_8 : wc.cell? ⟨gb262, 8, none⟩ = some (.string a0_8) := (blk_cell BK262.out 8).trans rfl
        have hcz24_9 : wc.cell? ⟨gb262, 9, none⟩ = some (.slice A0_9 l0_9.length c0_9) := (blk_cell BK262.out 9).trans rfl
        have hcz24_10 : wc.cell? ⟨gb262, 10, none⟩ = some (.int .i64 a0_10) := (blk_cell BK262.out 10).trans rfl
        have hcz24_11 : wc.cell? ⟨gb262, 11, none⟩ = some (.int .i64 a0_11) := (blk_cell BK262.out 11).trans rfl
        have hcz24_12 : wc.cell? ⟨gb262, 12, none⟩ = some (.slice A0_12 l0_12.length c0_12) := (blk_cell BK262.out 12).trans rfl
        have hfz24_0 := blk_frozen BK262.out 0
        have hfz24_1 := blk_frozen BK262.out 1
        have hfz24_2 := blk_frozen BK262.out 2
        have hfz24_3 := blk_frozen BK262.out 3
        have hfz24_4 := blk_frozen BK262.out 4
        have hfz24_5 := blk_frozen BK262.out 5
        have hfz24_6 := blk_frozen BK262.out 6
        have hfz24_7 := blk_frozen BK262.out 7
        have hfz24_8 := blk_frozen BK262.out 8
        have hfz24_9 := blk_frozen BK262.out 9
        have hfz24_10 := blk_frozen BK262.out 10
        have hfz24_11 := blk_frozen BK262.out 11
        have hfz24_12 := blk_frozen BK262.out 12
        go_wp2_with (((go_at_call 40; (with_reducible refine (notaryref35_Bare.calls kj6 a0_2 a0_3 _ _ l0_4 _ _ l0_5 a0_6 a0_7 a0_8 _ _ l0_9 a0_10 a0_11 t269 _ ?side1 ?side2 ?side3 ?side4 ?side5 ?side6 A23.out).mono ?_); (case side1 => exact Kd.C_below HR0_4.out HB.out); (case side2 => exact HC0_4.out); (case side3 => exact Kd.C_below HR0_5.out HB.out); (case side4 => exact HC0_5.out); (case side5 => exact Kd.C_below HR0_9.out HB.out); (case side6 => exact HC0_9.out); rintro e w25 ⟨rfl, hb⟩; have n0_ := Aside0.mk (blk_below (g := gb262) (o := .cells #[.int .i64 a0_0, .slice A0_1 l0_1.length c0_1, .int .i64 a0_2, .bool a0_3, .slice A0_4 l0_4.length c0_4, .slice A0_5 l0_5.length c0_5, .int .i64 a0_6, .int .i64 a0_7, .string a0_8, .slice A0_9 l0_9.length c0_9, .int .i64 a0_10, .int .i64 a0_11, .slice A0_12 l0_12.length c0_12] 42 (0, 0)) (by exact BK262.out) hb); have n1_ := Aside0.mk (below_step HB.out hb); clear BK262; clear HB; have BK262 := n0_; have HB := n1_; clear n0_ n1_; (try clear hb); (skip))))
        go_meet
        case rel => exact ⟨_, (!t269), (by (rfl)), H', ⟨by have := HJ6.out; (omega)⟩, ⟨by exact BK262.out⟩, ⟨HB.out⟩⟩
      rw [if_pos c19] at H
      have c19b0 : (a0_0 == 1) = true := beq_iff_eq.mpr c19
      have c19b1 : (a0_0 != 1) = false := bne_eq_false_iff_eq.mpr c19
      clear c19
      by_cases c20 : (l0_12.length : Int) > 0
      · rw [if_pos c20] at H
        have c20b0 : decide (0 < (l0_12.length : Int)) = true := decide_eq_true c20
        have c20b1 : decide (0 < l0_12.length) = true := decide_eq_true (by omega)
        clear c20
        have H' := Aside0.mk H
        clear H
        have hcz21_0 : wc.cell? ⟨gb262, 0, none⟩ = some (.int .i64 a0_0) := (blk_cell BK262.out 0).trans rfl
        have hcz21_1 : wc.cell? ⟨gb262, 1, none⟩ = some (.slice A0_1 l0_1.length c0_1) := (blk_cell BK262.out 1).trans rfl
        have hcz21_2 : wc.cell? ⟨gb262, 2, none⟩ = some (.int .i64 a0_2) := (blk_cell BK262.out 2).trans rfl
        have hcz21_3 : wc.cell? ⟨gb262, 3, none⟩ = some (.bool a0_3) := (blk_cell BK262.out 3).trans rfl
        have hcz21_4 : wc.cell? ⟨gb262, 4, none⟩ = some (.slice A0_4 l0_4.length c0_4) := (blk_cell BK262.out 4).trans rfl
        have hcz21_5 : wc.cell? ⟨gb262, 5, none⟩ = some (.slice A0_5 l0_5.length c0_5) := (blk_cell BK262.out 5).trans rfl
        have hcz21_6 : wc.cell? ⟨gb262, 6, none⟩ = some (.int .i64 a0_6) := (blk_cell BK262.out 6).trans rfl
        have hcz21_7 : wc.cell? ⟨gb262, 7, none⟩ = some (.int .i64 a0_7) := (blk_cell BK262.out 7).trans rfl
        have hcz21_8 : wc.cell? ⟨gb262, 8, none⟩ = some (.string a0_8) := (blk_cell BK262.out 8).trans rfl
        have hcz21_9 : wc.cell? ⟨gb262, 9, none⟩ = some (.slice A0_9 l0_9.length c0_9) := (blk_cell BK262.out 9).trans rfl
        have hcz21_10 : wc.cell? ⟨gb262, 10, none⟩ = some (.int .i64 a0_10) := (blk_cell BK262.out 10).trans rfl
        have hcz21_11 : wc.cell? ⟨gb262, 11, none⟩ = some (.int .i64 a0_11) := (blk_cell BK262.out 11).trans rfl
        have hcz21_12 : wc.cell? ⟨gb262, 12, none⟩ = some (.slice A0_12 l0_12.length c0_12) := (blk_cell BK262.out 12).trans rfl
        have hfz21_0 := blk_frozen BK262.out 0
        have hfz21_1 := blk_frozen BK262.out 1
        have hfz21_2 := blk_frozen BK262.out 2
        have hfz21_3 := blk_frozen BK262.out 3
        have hfz21_4 := blk_frozen BK262.out 4
        have hfz21_5 := blk_frozen BK262.out 5
        have hfz21_6 := blk_frozen BK262.out 6
        have hfz21_7 := blk_frozen BK262.out 7
        have hfz21_8 := blk_frozen BK262.out 8
        have hfz21_9 := blk_frozen BK262.out 9
        have hfz21_10 := blk_frozen BK262.out 10
        have hfz21_11 := blk_frozen BK262.out 11
        have hfz21_12 := blk_frozen BK262.out 12
        go_wp2
        go_meet
        case rel => exact ⟨_, (true), (by (rfl)), H', ⟨by have := HJ6.out; (omega)⟩, ⟨by exact BK262.out⟩, ⟨HB.out⟩⟩
      rw [if_neg c20] at H
      have c20b0 : decide (0 < (l0_12.length : Int)) = false := decide_eq_false c20
      have c20b1 : decide (0 < l0_12.length) = false := decide_eq_false (by omega)
      clear c20
      have H' := Aside0.mk H
      clear H
      have hcz22_0 : wc.cell? ⟨gb262, 0, none⟩ = some (.int .i64 a0_0) := (blk_cell BK262.out 0).trans rfl
      have hcz22_1 : wc.cell? ⟨gb262, 1, none⟩ = some (.slice A0_1 l0_1.length c0_1) := (blk_cell BK262.out 1).trans rfl
      have hcz22_2 : wc.cell? ⟨gb262, 2, none⟩ = some (.int .i64 a0_2) := (blk_cell BK262.out 2).trans rfl
      have hcz22_3 : wc.cell? ⟨gb262, 3, none⟩ = some (.bool a0_3) := (blk_cell BK262.out 3).trans rfl
      have hcz22_4 : wc.cell? ⟨gb262, 4, none⟩ = some (.slice A0_4 l0_4.length c0_4) := (blk_cell BK262.out 4).trans rfl
      have hcz22_5 : wc.cell? ⟨gb262, 5, none⟩ = some (.slice A0_5 l0_5.length c0_5) := (blk_cell BK262.out 5).trans rfl
      have hcz22_6 : wc.cell? ⟨gb262, 6, none⟩ = some (.int .i64 a0_6) := (blk_cell BK262.out 6).trans rfl
      have hcz22_7 : wc.cell? ⟨gb262, 7, none⟩ = some (.int .i64 a0_7) := (blk_cell BK262.out 7).trans rfl
      have hcz22_8 : wc.cell? ⟨gb262, 8, none⟩ = some (.string a0_8) := (blk_cell BK262.out 8).trans rfl
      have hcz22_9 : wc.cell? ⟨gb262, 9, none⟩ = some (.slice A0_9 l0_9.length c0_9) := (blk_cell BK262.out 9).trans rfl
      have hcz22_10 : wc.cell? ⟨gb262, 10, none⟩ = some (.int .i64 a0_10) := (blk_cell BK262.out 10).trans rfl
      have hcz22_11 : wc.cell? ⟨gb262, 11, none⟩ = some (.int .i64 a0_11) := (blk_cell BK262.out 11).trans rfl
      have hcz22_12 : wc.cell? ⟨gb262, 12, none⟩ = some (.slice A0_12 l0_12.length c0_12) := (blk_cell BK262.out 12).trans rfl
      have hfz22_0 := blk_frozen BK262.out 0
      have hfz22_1 := blk_frozen BK262.out 1
      have hfz22_2 := blk_frozen BK262.out 2
      have hfz22_3 := blk_frozen BK262.out 3
      have hfz22_4 := blk_frozen BK262.out 4
      have hfz22_5 := blk_frozen BK262.out 5
      have hfz22_6 := blk_frozen BK262.out 6
      have hfz22_7 := blk_frozen BK262.out 7
      have hfz22_8 := blk_frozen BK262.out 8
      have hfz22_9 := blk_frozen BK262.out 9
      have hfz22_10 := blk_frozen BK262.out 10
      have hfz22_11 := blk_frozen BK262.out 11
      have hfz22_12 := blk_frozen BK262.out 12
      go_wp2
      go_meet
      case rel => exact ⟨_, (false), (by (rfl)), H', ⟨by have := HJ6.out; (omega)⟩, ⟨by exact BK262.out⟩, ⟨HB.out⟩⟩
    rw [if_neg c18] at H
    have c18b0 : (a0_0 == 3) = false := beq_eq_false_iff_ne.mpr c18
    have c18b1 : (a0_0 != 3) = true := bne_iff_ne.mpr c18
    (skip)
    by_cases c26 : (l0_1.length : Int) > 0
    · rw [if_pos c26] at H
      have c26b0 : decide (0 < (l0_1.length : Int)) = true := decide_eq_true c26
      have c26b1 : decide (0 < l0_1.length) = true := decide_eq_true (by omega)
      clear c26
      have H' := Aside0.mk H
      clear H
      have hcz27_0 : wc.cell? ⟨gb262, 0, none⟩ = some (.int .i64 a0_0) := (blk_cell BK262.out 0).trans rfl
      have hcz27_1 : wc.cell? ⟨gb262, 1, none⟩ = some (.slice A0_1 l0_1.length c0_1) := (blk_cell BK262.out 1).trans rfl
      have hcz27_2 : wc.cell? ⟨gb262, 2, none⟩ = some (.int .i64 a0_2) := (blk_cell BK262.out 2).trans rfl
      have hcz27_3 : wc.cell? ⟨gb262, 3, none⟩ = some (.bool a0_3) := (blk_cell BK262.out 3).trans rfl
      have hcz27_4 : wc.cell? ⟨gb262, 4, none⟩ = some (.slice A0_4 l0_4.length c0_4) := (blk_cell BK262.out 4).trans rfl
      have hcz27_5 : wc.cell? ⟨gb262, 5, none⟩ = some (.slice A0_5 l0_5.length c0_5) := (blk_cell BK262.out 5).trans rfl
      have hcz27_6 : wc.cell? ⟨gb262, 6, none⟩ = some (.int .i64 a0_6) := (blk_cell BK262.out 6).trans rfl
      have hcz27_7 : wc.cell? ⟨gb262, 7, none⟩ = some (.int .i64 a0_7) := (blk_cell BK262.out 7).trans rfl
      have hcz27_8 : wc.cell? ⟨gb262, 8, none⟩ = some (.string a0_8) := (blk_cell BK262.out 8).trans rfl
      have hcz27_9 : wc.cell? ⟨gb262, 9, none⟩ = some (.slice A0_9 l0_9.length c0_9) := (blk_cell BK262.out 9).trans rfl
      have hcz27_10 : wc.cell? ⟨gb262, 10, none⟩ = some (.int .i64 a0_10) := (blk_cell BK262.out 10).trans rfl
      have hcz27_11 : wc.cell? ⟨gb262, 11, none⟩ = some (.int .i64 a0_11) := (blk_cell BK262.out 11).trans rfl
      have hcz27_12 : wc.cell? ⟨gb262, 12, none⟩ = some (.slice A0_12 l0_12.length c0_12) := (blk_cell BK262.out 12).trans rfl
      have hfz27_0 := blk_frozen BK262.out 0
      have hfz27_1 := blk_frozen BK262.out 1
      have hfz27_2 := blk_frozen BK262.out 2
      have hfz27_3 := blk_frozen BK262.out 3
      have hfz27_4 := blk_frozen BK262.out 4
      have hfz27_5 := blk_frozen BK262.out 5
      have hfz27_6 := blk_frozen BK262.out 6
      have hfz27_7 := blk_frozen BK262.out 7
      have hfz27_8 := blk_frozen BK262.out 8
      have hfz27_9 := blk_frozen BK262.out 9
      have hfz27_10 := blk_frozen BK262.out 10
      have hfz27_11 := blk_frozen BK262.out 11
      have hfz27_12 := blk_frozen BK262.out 12
      go_wp2
      go_meet
      case rel => exact ⟨_, (true), (by (rfl)), H', ⟨by have := HJ6.out; (omega)⟩, ⟨by exact BK262.out⟩, ⟨HB.out⟩⟩
    rw [if_neg c26] at H
    have c26b0 : decide (0 < (l0_1.length : Int)) = false := decide_eq_false c26
    have c26b1 : decide (0 < l0_1.length) = false := decide_eq_false (by omega)
    clear c26
    by_cases c28 : a0_0 = 1
    rotate_left
    · rw [if_neg c28] at H
      have c28b0 : (a0_0 == 1) = false := beq_eq_false_iff_ne.mpr c28
      have c28b1 : (a0_0 != 1) = true := bne_iff_ne.mpr c28
      replace H := Option.bind_eq_some_iff.mp H
      obtain ⟨t270, A320, H⟩ := H
      replace H : (notaryref36_Deriv.j1 kj6 a1 (!t270) a0_0 l0_1 a0_2 a0_3 l0_4 l0_5 a0_6 a0_7 a0_8 l0_9 a0_10 a0_11 l0_12) = some (r1, r2) := H
      have A32 := Aside0.mk A320
      clear A320
      have H' := Aside0.mk H
      clear H
      have hcz33_0 : wc.cell? ⟨gb262, 0, none⟩ = some (.int .i64 a0_0) := (blk_cell BK262.out 0).trans rfl
      have hcz33_1 : wc.cell? ⟨gb262, 1, none⟩ = some (.slice A0_1 l0_1.length c0_1) := (blk_cell BK262.out 1).trans rfl
      have hcz33_2 : wc.cell? ⟨gb262, 2, none⟩ = some (.int .i64 a0_2) := (blk_cell BK262.out 2).trans rfl
      have hcz33_3 : wc.cell? ⟨gb262, 3, none⟩ = some (.bool a0_3) := (blk_cell BK262.out 3).trans rfl
      have hcz33_4 : wc.cell? ⟨gb262, 4, none⟩ = some (.slice A0_4 l0_4.length c0_4) := (blk_cell BK262.out 4).trans rfl
      have hcz33_5 : wc.cell? ⟨gb262, 5, none⟩ = some (.slice A0_5 l0_5.length c0_5) := (blk_cell BK262.out 5).trans rfl
      have hcz33_6 : wc.cell? ⟨gb262, 6, none⟩ = some (.int .i64 a0_6) := (blk_cell BK262.out 6).trans rfl
      have hcz33_7 : wc.cell? ⟨gb262, 7, none⟩ = some (.int .i64 a0_7) := (blk_cell BK262.out 7).trans rfl
      have hcz33_8 : wc.cell? ⟨gb262, 8, none⟩ = some (.string a0_8) := (blk_cell BK262.out 8).trans rfl
      have hcz33_9 : wc.cell? ⟨gb262, 9, none⟩ = some (.slice A0_9 l0_9.length c0_9) := (blk_cell BK262.out 9).trans rfl
      have hcz33_10 : wc.cell? ⟨gb262, 10, none⟩ = some (.int .i64 a0_10) := (blk_cell BK262.out 10).trans rfl
      have hcz33_11 : wc.cell? ⟨gb262, 11, none⟩ = some (.int .i64 a0_11) := (blk_cell BK262.out 11).trans rfl
      have hcz33_12 : wc.cell? ⟨gb262, 12, none⟩ = some (.slice A0_12 l0_12.length c0_12) := (blk_cell BK262.out 12).trans rfl
      have hfz33_0 := blk_frozen BK262.out 0
      have hfz33_1 := blk_frozen BK262.out 1
      have hfz33_2 := blk_frozen BK262.out 2
      have hfz33_3 := blk_frozen BK262.out 3
      have hfz33_4 := blk_frozen BK262.out 4
      have hfz33_5 := blk_frozen BK262.out 5
      have hfz33_6 := blk_frozen BK262.out 6
      have hfz33_7 := blk_frozen BK262.out 7
      have hfz33_8 := blk_frozen BK262.out 8
      have hfz33_9 := blk_frozen BK262.out 9
      have hfz33_10 := blk_frozen BK262.out 10
      have hfz33_11 := blk_frozen BK262.out 11
      have hfz33_12 := blk_frozen BK262.out 12
      go_wp2_with (((go_at_call 40; (with_reducible refine (notaryref35_Bare.calls kj6 a0_2 a0_3 _ _ l0_4 _ _ l0_5 a0_6 a0_7 a0_8 _ _ l0_9 a0_10 a0_11 t270 _ ?side1 ?side2 ?side3 ?side4 ?side5 ?side6 A32.out).mono ?_); (case side1 => exact Kd.C_below HR0_4.out HB.out); (case side2 => exact HC0_4.out); (case side3 => exact Kd.C_below HR0_5.out HB.out); (case side4 => exact HC0_5.out); (case side5 => exact Kd.C_below HR0_9.out HB.out); (case side6 => exact HC0_9.out); rintro e w34 ⟨rfl, hb⟩; have n0_ := Aside0.mk (blk_below (g := gb262) (o := .cells #[.int .i64 a0_0, .slice A0_1 l0_1.length c0_1, .int .i64 a0_2, .bool a0_3, .slice A0_4 l0_4.length c0_4, .slice A0_5 l0_5.length c0_5, .int .i64 a0_6, .int .i64 a0_7, .string a0_8, .slice A0_9 l0_9.length c0_9, .int .i64 a0_10, .int .i64 a0_11, .slice A0_12 l0_12.length c0_12] 42 (0, 0)) (by exact BK262.out) hb); have n1_ := Aside0.mk (below_step HB.out hb); clear BK262; clear HB; have BK262 := n0_; have HB := n1_; clear n0_ n1_; (try clear hb); (skip))))
      go_meet
      case rel => exact ⟨_, (!t270), (by (rfl)), H', ⟨by have := HJ6.out; (omega)⟩, ⟨by exact BK262.out⟩, ⟨HB.out⟩⟩
    rw [if_pos c28] at H
    have c28b0 : (a0_0 == 1) = true := beq_iff_eq.mpr c28
    have c28b1 : (a0_0 != 1) = false := bne_eq_false_iff_eq.mpr c28
    clear c28
    by_cases c29 : (l0_12.length : Int) > 0
    · rw [if_pos c29] at H
      have c29b0 : decide (0 < (l0_12.length : Int)) = true := decide_eq_true c29
      have c29b1 : decide (0 < l0_12.length) = true := decide_eq_true (by omega)
      clear c29
      have H' := Aside0.mk H
      clear H
      have hcz30_0 : wc.cell? ⟨gb262, 0, none⟩ = some (.int .i64 a0_0) := (blk_cell BK262.out 0).trans rfl
      have hcz30_1 : wc.cell? ⟨gb262, 1, none⟩ = some (.slice A0_1 l0_1.length c0_1) := (blk_cell BK262.out 1).trans rfl
      have hcz30_2 : wc.cell? ⟨gb262, 2, none⟩ = some (.int .i64 a0_2) := (blk_cell BK262.out 2).trans rfl
      have hcz30_3 : wc.cell? ⟨gb262, 3, none⟩ = some (.bool a0_3) := (blk_cell BK262.out 3).trans rfl
      have hcz30_4 : wc.cell? ⟨gb262, 4, none⟩ = some (.slice A0_4 l0_4.length c0_4) := (blk_cell BK262.out 4).trans rfl
      have hcz30_5 : wc.cell? ⟨gb262, 5, none⟩ = some (.slice A0_5 l0_5.length c0_5) := (blk_cell BK262.out 5).trans rfl
      have hcz30_6 : wc.cell? ⟨gb262, 6, none⟩ = some (.int .i64 a0_6) := (blk_cell BK262.out 6).trans rfl
      have hcz30_7 : wc.cell? ⟨gb262, 7, none⟩ = some (.int .i64 a0_7) := (blk_cell BK262.out 7).trans rfl
      have hcz30_8 : wc.cell? ⟨gb262, 8, none⟩ = some (.string a0_8) := (blk_cell BK262.out 8).trans rfl
      have hcz30_9 : wc.cell? ⟨gb262, 9, none⟩ = some (.slice A0_9 l0_9.length c0_9) := (blk_cell BK262.out 9).trans rfl
      have hcz30_10 : wc.cell? ⟨gb262, 10, none⟩ = some (.int .i64 a0_10) := (blk_cell BK262.out 10).trans rfl
      have hcz30_11 : wc.cell? ⟨gb262, 11, none⟩ = some (.int .i64 a0_11) := (blk_cell BK262.out 11).trans rfl
      have hcz30_12 : wc.cell? ⟨gb262, 12, none⟩ = some (.slice A0_12 l0_12.length c0_12) := (blk_cell BK262.out 12).trans rfl
      have hfz30_0 := blk_frozen BK262.out 0
      have hfz30_1 := blk_frozen BK262.out 1
      have hfz30_2 := blk_frozen BK262.out 2
      have hfz30_3 := blk_frozen BK262.out 3
      have hfz30_4 := blk_frozen BK262.out 4
      have hfz30_5 := blk_frozen BK262.out 5
      have hfz30_6 := blk_frozen BK262.out 6
      have hfz30_7 := blk_frozen BK262.out 7
      have hfz30_8 := blk_frozen BK262.out 8
      have hfz30_9 := blk_frozen BK262.out 9
      have hfz30_10 := blk_frozen BK262.out 10
      have hfz30_11 := blk_frozen BK262.out 11
      have hfz30_12 := blk_frozen BK262.out 12
      go_wp2
      go_meet
      case rel => exact ⟨_, (true), (by (rfl)), H', ⟨by have := HJ6.out; (omega)⟩, ⟨by exact BK262.out⟩, ⟨HB.out⟩⟩
    rw [if_neg c29] at H
    have c29b0 : decide (0 < (l0_12.length : Int)) = false := decide_eq_false c29
    have c29b1 : decide (0 < l0_12.length) = false := decide_eq_false (by omega)
    clear c29
    have H' := Aside0.mk H
    clear H
    have hcz31_0 : wc.cell? ⟨gb262, 0, none⟩ = some (.int .i64 a0_0) := (blk_cell BK262.out 0).trans rfl
    have hcz31_1 : wc.cell? ⟨gb262, 1, none⟩ = some (.slice A0_1 l0_1.length c0_1) := (blk_cell BK262.out 1).trans rfl
    have hcz31_2 : wc.cell? ⟨gb262, 2, none⟩ = some (.int .i64 a0_2) := (blk_cell BK262.out 2).trans rfl
    have hcz31_3 : wc.cell? ⟨gb262, 3, none⟩ = some (.bool a0_3) := (blk_cell BK262.out 3).trans rfl
    have hcz31_4 : wc.cell? ⟨gb262, 4, none⟩ = some (.slice A0_4 l0_4.length c0_4) := (blk_cell BK262.out 4).trans rfl
    have hcz31_5 : wc.cell? ⟨gb262, 5, none⟩ = some (.slice A0_5 l0_5.length c0_5) := (blk_cell BK262.out 5).trans rfl
    have hcz31_6 : wc.cell? ⟨gb262, 6, none⟩ = some (.int .i64 a0_6) := (blk_cell BK262.out 6).trans rfl
    have hcz31_7 : wc.cell? ⟨gb262, 7, none⟩ = some (.int .i64 a0_7) := (blk_cell BK262.out 7).trans rfl
    have hcz31_8 : wc.cell? ⟨gb262, 8, none⟩ = some (.string a0_8) := (blk_cell BK262.out 8).trans rfl
    have hcz31_9 : wc.cell? ⟨gb262, 9, none⟩ = some (.slice A0_9 l0_9.length c0_9) := (blk_cell BK262.out 9).trans rfl
    have hcz31_10 : wc.cell? ⟨gb262, 10, none⟩ = some (.int .i64 a0_10) := (blk_cell BK262.out 10).trans rfl
    have hcz31_11 : wc.cell? ⟨gb262, 11, none⟩ = some (.int .i64 a0_11) := (blk_cell BK262.out 11).trans rfl
    have hcz31_12 : wc.cell? ⟨gb262, 12, none⟩ = some (.slice A0_12 l0_12.length c0_12) := (blk_cell BK262.out 12).trans rfl
    have hfz31_0 := blk_frozen BK262.out 0
    have hfz31_1 := blk_frozen BK262.out 1
    have hfz31_2 := blk_frozen BK262.out 2
    have hfz31_3 := blk_frozen BK262.out 3
    have hfz31_4 := blk_frozen BK262.out 4
    have hfz31_5 := blk_frozen BK262.out 5
    have hfz31_6 := blk_frozen BK262.out 6
    have hfz31_7 := blk_frozen BK262.out 7
    have hfz31_8 := blk_frozen BK262.out 8
    have hfz31_9 := blk_frozen BK262.out 9
    have hfz31_10 := blk_frozen BK262.out 10
    have hfz31_11 := blk_frozen BK262.out 11
    have hfz31_12 := blk_frozen BK262.out 12
    go_wp2
    go_meet
    case rel => exact ⟨_, (false), (by (rfl)), H', ⟨by have := HJ6.out; (omega)⟩, ⟨by exact BK262.out⟩, ⟨HB.out⟩⟩
  clear HC17
  obtain ⟨kq, x61_16, rfl, HA, HJ16, BK262, HB⟩ := hcut
  rcases kq with _ | kj16
  · exact absurd HA.out (by simp [notaryref36_Deriv.j1])
  have H := HA.out
  clear HA
  simp only [notaryref36_Deriv.j1] at H
  by_cases c35 : x61_16 = true
  · subst c35
    have H1 : (some (([] : List Int), 2)) = some (r1, r2) := by rw [if_pos rfl] at H; exact H
    clear H
    have H := H1
    clear H1
    obtain ⟨y271, hy271⟩ : ∃ y_ : List Int, y_ = ([] : List Int) := ⟨_, rfl⟩
    replace H : (some (y271, 2)) = some (r1, r2) := by (rw [hy271]; with_reducible exact H)
    have Ny271 := Aside0.mk hy271
    clear hy271
    simp only [Option.some.injEq, Prod.mk.injEq] at H
    obtain ⟨rfl, rfl⟩ := H
    go_wp2_with ((((with_reducible refine gate_dst (N := 62) rfl ?_); (try (refine gate_guard (by rfl) ?_; dsimp only)); refine Kd.R_lit (Kd.int .u8) _ 5 ?hg (N := 62) ?hd (xs := ([] : List Int)) (inner := []) (ok := fun _ => True) (okp := fun _ => True) ?hr ?hp (fun _ hk => hk) trivial (Below.refl _ _) (Nat.le_refl _) (by simp) ?_; (case hd => rfl); (case hg => rfl); (case hr => (go_simp; done)); (case hp => exact (Reps.none _ _)); intro v272 w36 ho37 hb hg_ hnew_; clear hg_ hnew_; (rw [← Ny271.out] at ho37); have n0_ := Aside0.mk (Kd.R_lower ho37 (below_size HB.out)); have n1_ := Aside0.mk (blk_below (g := gb262) (o := .cells #[.int .i64 a0_0, .slice A0_1 l0_1.length c0_1, .int .i64 a0_2, .bool a0_3, .slice A0_4 l0_4.length c0_4, .slice A0_5 l0_5.length c0_5, .int .i64 a0_6, .int .i64 a0_7, .string a0_8, .slice A0_9 l0_9.length c0_9, .int .i64 a0_10, .int .i64 a0_11, .slice A0_12 l0_12.length c0_12] 42 (0, 0)) (by exact BK262.out) hb); have n2_ := Aside0.mk (below_step HB.out hb); clear BK262; clear HB; have HO273 := n0_; have BK262 := n1_; have HB := n2_; clear n0_ n1_ n2_; clear hb ho37)))
    go_ret2
    exact ⟨_, by (rfl), by exact HO273.out, HB.out⟩
  replace c35 := Bool.eq_false_iff.mpr c35
  subst c35
  have H1 : ((some (([(a0_0) % 256] : List Int) : List Int)).bind fun y274 => (if a0_0 = 1 then ((notaryref36_Step.f kj16 a0_2 a0_3 l0_4 l0_5 a0_6 a0_7 a0_8 l0_9 a0_10 a0_11).bind fun bt277 => (if y274.length + bt277.1.length < 140737488355328 then (some ((y274 ++ bt277.1), bt277.2)) else (none))) else (if a0_0 = 3 then ((notaryref36_List.f kj16 l0_1).bind fun bt284 => (if bt284.2 = 0 then (if y274.length + bt284.1.length < 140737488355328 then (notaryref36_Deriv.j2 kj16 a1 (y274 ++ bt284.1) a0_0 l0_1 a0_2 a0_3 l0_4 l0_5 a0_6 a0_7 a0_8 l0_9 a0_10 a0_11 l0_12) else (none)) else (some (([] : List Int), bt284.2)))) else (notaryref36_Deriv.j2 kj16 a1 y274 a0_0 l0_1 a0_2 a0_3 l0_4 l0_5 a0_6 a0_7 a0_8 l0_9 a0_10 a0_11 l0_12)))) = some (r1, r2) := by rw [if_neg (show ¬ (false = true) by decide)] at H; exact H
  clear H
  have H := H1
  clear H1
  obtain ⟨y274, hy274⟩ : ∃ y_ : List Int, y_ = (([(a0_0) % 256] : List Int)) := ⟨_, rfl⟩
  replace H : (if a0_0 = 1 then ((notaryref36_Step.f kj16 a0_2 a0_3 l0_4 l0_5 a0_6 a0_7 a0_8 l0_9 a0_10 a0_11).bind fun bt277 => (if y274.length + bt277.1.length < 140737488355328 then (some ((y274 ++ bt277.1), bt277.2)) else (none))) else (if a0_0 = 3 then ((notaryref36_List.f kj16 l0_1).bind fun bt284 => (if bt284.2 = 0 then (if y274.length + bt284.1.length < 140737488355328 then (notaryref36_Deriv.j2 kj16 a1 (y274 ++ bt284.1) a0_0 l0_1 a0_2 a0_3 l0_4 l0_5 a0_6 a0_7 a0_8 l0_9 a0_10 a0_11 l0_12) else (none)) else (some (([] : List Int), bt284.2)))) else (notaryref36_Deriv.j2 kj16 a1 y274 a0_0 l0_1 a0_2 a0_3 l0_4 l0_5 a0_6 a0_7 a0_8 l0_9 a0_10 a0_11 l0_12))) = some (r1, r2) := by ((have H2_ := (Option.bind_some _ _).symm.trans H; rw [hy274]; with_reducible exact H2_))
  have Ny274 := Aside0.mk hy274
  clear hy274
  by_cases c38 : a0_0 = 1
  · rw [if_pos c38] at H
    have c38b0 : (a0_0 == 1) = true := beq_iff_eq.mpr c38
    have c38b1 : (a0_0 != 1) = false := bne_eq_false_iff_eq.mpr c38
    clear c38
    replace H := Option.bind_eq_some_iff.mp H
    obtain ⟨⟨t277, t280⟩, A390, H⟩ := H
    replace H : (if y274.length + t277.length < 140737488355328 then (some ((y274 ++ t277), t280)) else (none)) = some (r1, r2) := H
    have A39 := Aside0.mk A390
    clear A390
    by_cases c40 : y274.length + t277.length < 140737488355328
    rotate_left
    · rw [if_neg c40] at H
      exact absurd H (by simp)
    rw [if_pos c40] at H
    have LMc40 := Aside0.mk c40
    clear c40
    obtain ⟨y281, hy281⟩ : ∃ y_ : List Int, y_ = (y274 ++ t277) := ⟨_, rfl⟩
    replace H : (some (y281, t280)) = some (r1, r2) := by (rw [hy281]; with_reducible exact H)
    have Ny281 := Aside0.mk hy281
    clear hy281
    simp only [Option.some.injEq, Prod.mk.injEq] at H
    obtain ⟨rfl, rfl⟩ := H
    have hcz41_0 : wc.cell? ⟨gb262, 0, none⟩ = some (.int .i64 a0_0) := (blk_cell BK262.out 0).trans rfl
    have hcz41_1 : wc.cell? ⟨gb262, 1, none⟩ = some (.slice A0_1 l0_1.length c0_1) := (blk_cell BK262.out 1).trans rfl
    have hcz41_2 : wc.cell? ⟨gb262, 2, none⟩ = some (.int .i64 a0_2) := (blk_cell BK262.out 2).trans rfl
    have hcz41_3 : wc.cell? ⟨gb262, 3, none⟩ = some (.bool a0_3) := (blk_cell BK262.out 3).trans rfl
    have hcz41_4 : wc.cell? ⟨gb262, 4, none⟩ = some (.slice A0_4 l0_4.length c0_4) := (blk_cell BK262.out 4).trans rfl
    have hcz41_5 : wc.cell? ⟨gb262, 5, none⟩ = some (.slice A0_5 l0_5.length c0_5) := (blk_cell BK262.out 5).trans rfl
    have hcz41_6 : wc.cell? ⟨gb262, 6, none⟩ = some (.int .i64 a0_6) := (blk_cell BK262.out 6).trans rfl
    have hcz41_7 : wc.cell? ⟨gb262, 7, none⟩ = some (.int .i64 a0_7) := (blk_cell BK262.out 7).trans rfl
    have hcz41_8 : wc.cell? ⟨gb262, 8, none⟩ = some (.string a0_8) := (blk_cell BK262.out 8).trans rfl
    have hcz41_9 : wc.cell? ⟨gb262, 9, none⟩ = some (.slice A0_9 l0_9.length c0_9) := (blk_cell BK262.out 9).trans rfl
    have hcz41_10 : wc.cell? ⟨gb262, 10, none⟩ = some (.int .i64 a0_10) := (blk_cell BK262.out 10).trans rfl
    have hcz41_11 : wc.cell? ⟨gb262, 11, none⟩ = some (.int .i64 a0_11) := (blk_cell BK262.out 11).trans rfl
    have hcz41_12 : wc.cell? ⟨gb262, 12, none⟩ = some (.slice A0_12 l0_12.length c0_12) := (blk_cell BK262.out 12).trans rfl
    have hfz41_0 := blk_frozen BK262.out 0
    have hfz41_1 := blk_frozen BK262.out 1
    have hfz41_2 := blk_frozen BK262.out 2
    have hfz41_3 := blk_frozen BK262.out 3
    have hfz41_4 := blk_frozen BK262.out 4
    have hfz41_5 := blk_frozen BK262.out 5
    have hfz41_6 := blk_frozen BK262.out 6
    have hfz41_7 := blk_frozen BK262.out 7
    have hfz41_8 := blk_frozen BK262.out 8
    have hfz41_9 := blk_frozen BK262.out 9
    have hfz41_10 := blk_frozen BK262.out 10
    have hfz41_11 := blk_frozen BK262.out 11
    have hfz41_12 := blk_frozen BK262.out 12
    go_wp2_with (first | ((with_reducible refine gate_dst (N := 66) rfl ?_); (try (refine gate_guard (by rfl) ?_; dsimp only)); refine Kd.R_lit (Kd.int .u8) _ 5 ?hg (N := 66) ?hd (xs := ([(a0_0) % 256] : List Int)) (inner := [.int .u8 ((a0_0) % 256)]) (ok := fun _ => True) (okp := fun _ => True) ?hr ?hp (fun _ hk => hk) trivial (Below.refl _ _) (Nat.le_refl _) (by simp) ?_; (case hd => rfl); (case hg => rfl); (case hr => (go_simp; done)); (case hp => exact (Reps.one (show Kd.M (Kd.int .u8) _ _ _ ((a0_0) % 256) [.int .u8 ((a0_0) % 256)] from rfl) (Reps.none _ _))); intro v275 w42 ho43 hb hg_ hnew_; clear hg_ hnew_; (rw [← Ny274.out] at ho43); have n0_ := Aside0.mk (Kd.R_lower ho43 (below_size HB.out)); have n1_ := Aside0.mk (blk_below (g := gb262) (o := .cells #[.int .i64 a0_0, .slice A0_1 l0_1.length c0_1, .int .i64 a0_2, .bool a0_3, .slice A0_4 l0_4.length c0_4, .slice A0_5 l0_5.length c0_5, .int .i64 a0_6, .int .i64 a0_7, .string a0_8, .slice A0_9 l0_9.length c0_9, .int .i64 a0_10, .int .i64 a0_11, .slice A0_12 l0_12.length c0_12] 42 (0, 0)) (by exact BK262.out) hb); have n2_ := Aside0.mk (below_step HB.out hb); clear BK262; clear HB; have HO276 := n0_; have BK262 := n1_; have HB := n2_; clear n0_ n1_ n2_; clear hb ho43; have hcz44_0 : w42.cell? ⟨gb262, 0, none⟩ = some (.int .i64 a0_0) := (blk_cell BK262.out 0).trans rfl; have hcz44_1 : w42.cell? ⟨gb262, 1, none⟩ = some (.slice A0_1 l0_1.length c0_1) := (blk_cell BK262.out 1).trans rfl; have hcz44_2 : w42.cell? ⟨gb262, 2, none⟩ = some (.int .i64 a0_2) := (blk_cell BK262.out 2).trans rfl; have hcz44_3 : w42.cell? ⟨gb262, 3, none⟩ = some (.bool a0_3) := (blk_cell BK262.out 3).trans rfl; have hcz44_4 : w42.cell? ⟨gb262, 4, none⟩ = some (.slice A0_4 l0_4.length c0_4) := (blk_cell BK262.out 4).trans rfl; have hcz44_5 : w42.cell? ⟨gb262, 5, none⟩ = some (.slice A0_5 l0_5.length c0_5) := (blk_cell BK262.out 5).trans rfl; have hcz44_6 : w42.cell? ⟨gb262, 6, none⟩ = some (.int .i64 a0_6) := (blk_cell BK262.out 6).trans rfl; have hcz44_7 : w42.cell? ⟨gb262, 7, none⟩ = some (.int .i64 a0_7) := (blk_cell BK262.out 7).trans rfl; have hcz44_8 : w42.cell? ⟨gb262, 8, none⟩ = some (.string a0_8) := (blk_cell BK262.out 8).trans rfl; have hcz44_9 : w42.cell? ⟨gb262, 9, none⟩ = some (.slice A0_9 l0_9.length c0_9) := (blk_cell BK262.out 9).trans rfl; have hcz44_10 : w42.cell? ⟨gb262, 10, none⟩ = some (.int .i64 a0_10) := (blk_cell BK262.out 10).trans rfl; have hcz44_11 : w42.cell? ⟨gb262, 11, none⟩ = some (.int .i64 a0_11) := (blk_cell BK262.out 11).trans rfl; have hcz44_12 : w42.cell? ⟨gb262, 12, none⟩ = some (.slice A0_12 l0_12.length c0_12) := (blk_cell BK262.out 12).trans rfl; have hfz44_0 := blk_frozen BK262.out 0; have hfz44_1 := blk_frozen BK262.out 1; have hfz44_2 := blk_frozen BK262.out 2; have hfz44_3 := blk_frozen BK262.out 3; have hfz44_4 := blk_frozen BK262.out 4; have hfz44_5 := blk_frozen BK262.out 5; have hfz44_6 := blk_frozen BK262.out 6; have hfz44_7 := blk_frozen BK262.out 7; have hfz44_8 := blk_frozen BK262.out 8; have hfz44_9 := blk_frozen BK262.out 9; have hfz44_10 := blk_frozen BK262.out 10; have hfz44_11 := blk_frozen BK262.out 11; have hfz44_12 := blk_frozen BK262.out 12) | ((with_reducible refine gate_callee (f := 41) rfl ?_); refine goesL_ (some 73) rfl rfl Try.func41 (by kernel_rfl) rfl #[.agg #[.int .i64 a0_2, .bool a0_3, .slice A0_4 l0_4.length c0_4, .slice A0_5 l0_5.length c0_5, .int .i64 a0_6, .int .i64 a0_7, .string a0_8, .slice A0_9 l0_9.length c0_9, .int .i64 a0_10, .int .i64 a0_11]] rfl (by (try simp only [List.map_toArray, List.map_cons, List.map_nil]); (rfl)) ?_; (with_reducible refine (notaryref36_Step.calls kj16 a0_2 a0_3 _ _ l0_4 _ _ l0_5 a0_6 a0_7 a0_8 _ _ l0_9 a0_10 a0_11 t277 t280 _ ?side1 ?side2 ?side3 ?side4 ?side5 ?side6 A39.out).mono ?_); (case side1 => exact Kd.C_below HR0_4.out HB.out); (case side2 => exact HC0_4.out); (case side3 => exact Kd.C_below HR0_5.out HB.out); (case side4 => exact HC0_5.out); (case side5 => exact Kd.C_below HR0_9.out HB.out); (case side6 => exact HC0_9.out); rintro e w45 ⟨v278, rfl, ho0, hb⟩; refine ⟨_, rfl, ?_⟩; have n0_ := Aside0.mk (Kd.R_elder' (by exact HO276.out) (Kd.R_base ho0) hb); have n1_ := Aside0.mk (Kd.R_lower (Kd.R_new' ho0 (Kd.R_lt (by exact HO276.out))) (below_size HB.out)); have n2_ := Aside0.mk (blk_below (g := gb262) (o := .cells #[.int .i64 a0_0, .slice A0_1 l0_1.length c0_1, .int .i64 a0_2, .bool a0_3, .slice A0_4 l0_4.length c0_4, .slice A0_5 l0_5.length c0_5, .int .i64 a0_6, .int .i64 a0_7, .string a0_8, .slice A0_9 l0_9.length c0_9, .int .i64 a0_10, .int .i64 a0_11, .slice A0_12 l0_12.length c0_12] 42 (0, 0)) (by exact BK262.out) hb); have n3_ := Aside0.mk (below_step HB.out hb); clear HO276; clear BK262; clear HB; have HO276 := n0_; have HO279 := n1_; have BK262 := n2_; have HB := n3_; clear n0_ n1_ n2_ n3_; (try clear hb); (try clear ho0); obtain ⟨Ao47, co47, eo47⟩ := Kd.R_slice HO279.out; subst eo47) | ((with_reducible refine gate_builtin (b := .append) (xs := #[.tmp 76, .tmp 77]) rfl ?_); (try (refine gate_guard (by rfl) ?_; dsimp only)); at_builtin; refine Kd.R_append_rows (Kd.int .u8) (w0 := w) w.heap.size rfl (.tmp 76) (.tmp 77) 22 5 (.int .u8 0) 1 rfl Try.underlying22 info5 rfl (by decide) (by omega) v275 y274 t277 _ _ _ (fun k_ => some k_ ≠ (.slice Ao47 t277.length co47 : Value).ownBlock) (fun _ => False) rfl rfl ?aO ?aR (fun _ _ h => h) (fun _ h => h.elim) ?aF ?aB ?aS ?aL ?_; (case aR => repeat ((exact (Kd.R_reads' HO279.out).2.2))); (case aB => exact HB.out); (case aF => exact (fun k_ hk => Kd.fresh' (Kd.R_lt (by exact HO279.out)) k_ hk)); (case aO => exact (by exact Kd.R_mono HO276.out (fun _ hk => hk.2))); (case aS => exact (below_size HB.out)); (case aL => have := LMc40.out; omega); intro v282 w46 ho hb hg hat; rw [← Ny281.out] at ho; have n0_ := Aside0.mk (blk_grown (g := gb262) (o := .cells #[.int .i64 a0_0, .slice A0_1 l0_1.length c0_1, .int .i64 a0_2, .bool a0_3, .slice A0_4 l0_4.length c0_4, .slice A0_5 l0_5.length c0_5, .int .i64 a0_6, .int .i64 a0_7, .string a0_8, .slice A0_9 l0_9.length c0_9, .int .i64 a0_10, .int .i64 a0_11, .slice A0_12 l0_12.length c0_12] 42 (0, 0)) (by exact BK262.out) hg (Kd.R_ne HO276.out BK262.out (by decide))); have n1_ := Aside0.mk (Kd.R_after (ok := (fun _ => True)) (by exact HO279.out) hg hat); have n2_ := Aside0.mk (hb); have n3_ := Aside0.mk (ho); clear BK262; clear HO279; clear HB; clear HO276; have BK262 := n0_; have HO279 := n1_; have HB := n2_; have HO283 := n3_; clear n0_ n1_ n2_ n3_; clear ho hb hg hat))
    go_ret2
    exact ⟨_, by (rfl), by exact Kd.R_mono HO283.out (fun _ hk => trivial), HB.out⟩
  rw [if_neg c38] at H
  have c38b0 : (a0_0 == 1) = false := beq_eq_false_iff_ne.mpr c38
  have c38b1 : (a0_0 != 1) = true := bne_iff_ne.mpr c38
  have HC48 := Aside0.mk H
  clear H
  have hcz49_0 : wc.cell? ⟨gb262, 0, none⟩ = some (.int .i64 a0_0) := (blk_cell BK262.out 0).trans rfl
  have hcz49_1 : wc.cell? ⟨gb262, 1, none⟩ = some (.slice A0_1 l0_1.length c0_1) := (blk_cell BK262.out 1).trans rfl
  have hcz49_2 : wc.cell? ⟨gb262, 2, none⟩ = some (.int .i64 a0_2) := (blk_cell BK262.out 2).trans rfl
  have hcz49_3 : wc.cell? ⟨gb262, 3, none⟩ = some (.bool a0_3) := (blk_cell BK262.out 3).trans rfl
  have hcz49_4 : wc.cell? ⟨gb262, 4, none⟩ = some (.slice A0_4 l0_4.length c0_4) := (blk_cell BK262.out 4).trans rfl
  have hcz49_5 : wc.cell? ⟨gb262, 5, none⟩ = some (.slice A0_5 l0_5.length c0_5) := (blk_cell BK262.out 5).trans rfl
  have hcz49_6 : wc.cell? ⟨gb262, 6, none⟩ = some (.int .i64 a0_6) := (blk_cell BK262.out 6).trans rfl
  have hcz49_7 : wc.cell? ⟨gb262, 7, none⟩ = some (.int .i64 a0_7) := (blk_cell BK262.out 7).trans rfl
  have hcz49_8 : wc.cell? ⟨gb262, 8, none⟩ = some (.string a0_8) := (blk_cell BK262.out 8).trans rfl
  have hcz49_9 : wc.cell? ⟨gb262, 9, none⟩ = some (.slice A0_9 l0_9.length c0_9) := (blk_cell BK262.out 9).trans rfl
  have hcz49_10 : wc.cell? ⟨gb262, 10, none⟩ = some (.int .i64 a0_10) := (blk_cell BK262.out 10).trans rfl
  have hcz49_11 : wc.cell? ⟨gb262, 11, none⟩ = some (.int .i64 a0_11) := (blk_cell BK262.out 11).trans rfl
  have hcz49_12 : wc.cell? ⟨gb262, 12, none⟩ = some (.slice A0_12 l0_12.length c0_12) := (blk_cell BK262.out 12).trans rfl
  have hfz49_0 := blk_frozen BK262.out 0
  have hfz49_1 := blk_frozen BK262.out 1
  have hfz49_2 := blk_frozen BK262.out 2
  have hfz49_3 := blk_frozen BK262.out 3
  have hfz49_4 := blk_frozen BK262.out 4
  have hfz49_5 := blk_frozen BK262.out 5
  have hfz49_6 := blk_frozen BK262.out 6
  have hfz49_7 := blk_frozen BK262.out 7
  have hfz49_8 := blk_frozen BK262.out 8
  have hfz49_9 := blk_frozen BK262.out 9
  have hfz49_10 := blk_frozen BK262.out 10
  have hfz49_11 := blk_frozen BK262.out 11
  have hfz49_12 := blk_frozen BK262.out 12
  go_upto_if 82 with ((((with_reducible refine gate_dst (N := 66) rfl ?_); (try (refine gate_guard (by rfl) ?_; dsimp only)); refine Kd.R_lit (Kd.int .u8) _ 5 ?hg (N := 66) ?hd (xs := ([(a0_0) % 256] : List Int)) (inner := [.int .u8 ((a0_0) % 256)]) (ok := fun _ => True) (okp := fun _ => True) ?hr ?hp (fun _ hk => hk) trivial (Below.refl _ _) (Nat.le_refl _) (by simp) ?_; (case hd => rfl); (case hg => rfl); (case hr => (go_simp; done)); (case hp => exact (Reps.one (show Kd.M (Kd.int .u8) _ _ _ ((a0_0) % 256) [.int .u8 ((a0_0) % 256)] from rfl) (Reps.none _ _))); intro v275 w50 ho51 hb hg_ hnew_; clear hg_ hnew_; (rw [← Ny274.out] at ho51); have n0_ := Aside0.mk (Kd.R_lower ho51 (below_size HB.out)); have n1_ := Aside0.mk (blk_below (g := gb262) (o := .cells #[.int .i64 a0_0, .slice A0_1 l0_1.length c0_1, .int .i64 a0_2, .bool a0_3, .slice A0_4 l0_4.length c0_4, .slice A0_5 l0_5.length c0_5, .int .i64 a0_6, .int .i64 a0_7, .string a0_8, .slice A0_9 l0_9.length c0_9, .int .i64 a0_10, .int .i64 a0_11, .slice A0_12 l0_12.length c0_12] 42 (0, 0)) (by exact BK262.out) hb); have n2_ := Aside0.mk (below_step HB.out hb); clear BK262; clear HB; have HO276 := n0_; have BK262 := n1_; have HB := n2_; clear n0_ n1_ n2_; clear hb ho51; have hcz52_0 : w50.cell? ⟨gb262, 0, none⟩ = some (.int .i64 a0_0) := (blk_cell BK262.out 0).trans rfl; have hcz52_1 : w50.cell? ⟨gb262, 1, none⟩ = some (.slice A0_1 l0_1.length c0_1) := (blk_cell BK262.out 1).trans rfl; have hcz52_2 : w50.cell? ⟨gb262, 2, none⟩ = some (.int .i64 a0_2) := (blk_cell BK262.out 2).trans rfl; have hcz52_3 : w50.cell? ⟨gb262, 3, none⟩ = some (.bool a0_3) := (blk_cell BK262.out 3).trans rfl; have hcz52_4 : w50.cell? ⟨gb262, 4, none⟩ = some (.slice A0_4 l0_4.length c0_4) := (blk_cell BK262.out 4).trans rfl; have hcz52_5 : w50.cell? ⟨gb262, 5, none⟩ = some (.slice A0_5 l0_5.length c0_5) := (blk_cell BK262.out 5).trans rfl; have hcz52_6 : w50.cell? ⟨gb262, 6, none⟩ = some (.int .i64 a0_6) := (blk_cell BK262.out 6).trans rfl; have hcz52_7 : w50.cell? ⟨gb262, 7, none⟩ = some (.int .i64 a0_7) := (blk_cell BK262.out 7).trans rfl; have hcz52_8 : w50.cell? ⟨gb262, 8, none⟩ = some (.string a0_8) := (blk_cell BK262.out 8).trans rfl; have hcz52_9 : w50.cell? ⟨gb262, 9, none⟩ = some (.slice A0_9 l0_9.length c0_9) := (blk_cell BK262.out 9).trans rfl; have hcz52_10 : w50.cell? ⟨gb262, 10, none⟩ = some (.int .i64 a0_10) := (blk_cell BK262.out 10).trans rfl; have hcz52_11 : w50.cell? ⟨gb262, 11, none⟩ = some (.int .i64 a0_11) := (blk_cell BK262.out 11).trans rfl; have hcz52_12 : w50.cell? ⟨gb262, 12, none⟩ = some (.slice A0_12 l0_12.length c0_12) := (blk_cell BK262.out 12).trans rfl; have hfz52_0 := blk_frozen BK262.out 0; have hfz52_1 := blk_frozen BK262.out 1; have hfz52_2 := blk_frozen BK262.out 2; have hfz52_3 := blk_frozen BK262.out 3; have hfz52_4 := blk_frozen BK262.out 4; have hfz52_5 := blk_frozen BK262.out 5; have hfz52_6 := blk_frozen BK262.out 6; have hfz52_7 := blk_frozen BK262.out 7; have hfz52_8 := blk_frozen BK262.out 8; have hfz52_9 := blk_frozen BK262.out 9; have hfz52_10 := blk_frozen BK262.out 10; have hfz52_11 := blk_frozen BK262.out 11; have hfz52_12 := blk_frozen BK262.out 12)))
  (skip)
  go_cut [6] (fun v6 wc => ∃ (kq : Nat) (x6_47 : List Int), Aside0 (notaryref36_Deriv.j2 kq a1 x6_47 a0_0 l0_1 a0_2 a0_3 l0_4 l0_5 a0_6 a0_7 a0_8 l0_9 a0_10 a0_11 l0_12 = some (r1, r2)) ∧ Aside0 (kq ≤ kj16) ∧ Aside0 (Kd.R (Kd.int .u8) 5 wc w.heap.size (fun _ => True) v6 x6_47) ∧ Aside0 (wc.heap[gb262]? = some (.cells #[.int .i64 a0_0, (.slice A0_1 l0_1.length c0_1), .int .i64 a0_2, .bool a0_3, (.slice A0_4 l0_4.length c0_4), (.slice A0_5 l0_5.length c0_5), .int .i64 a0_6, .int .i64 a0_7, .string a0_8, (.slice A0_9 l0_9.length c0_9), .int .i64 a0_10, .int .i64 a0_11, (.slice A0_12 l0_12.length c0_12)] 42 (0, 0))) ∧ Aside0 (Below w.heap.size w wc))
  case first =>
    have H := HC48.out
    clear HC48
    by_cases c53 : a0_0 = 3
    rotate_left
    · rw [if_neg c53] at H
      have c53b0 : (a0_0 == 3) = false := beq_eq_false_iff_ne.mpr c53
      have c53b1 : (a0_0 != 3) = true := bne_iff_ne.mpr c53
      (rw [c53b0])
      have H' := Aside0.mk H
      clear H
      go_wp2
      go_meet
      case rel => exact ⟨_, (y274), H', ⟨by have := HJ6.out; have := HJ16.out; (omega)⟩, ⟨by exact HO276.out⟩, ⟨by exact BK262.out⟩, ⟨HB.out⟩⟩
    rw [if_pos c53] at H
    have c53b0 : (a0_0 == 3) = true := beq_iff_eq.mpr c53
    have c53b1 : (a0_0 != 3) = false := bne_eq_false_iff_eq.mpr c53
    clear c53
    (rw [c53b0])
    replace H := Option.bind_eq_some_iff.mp H
    obtain ⟨⟨t284, t285⟩, A540, H⟩ := H
    replace H : (if t285 = 0 then (if y274.length + t284.length < 140737488355328 then (notaryref36_Deriv.j2 kj16 a1 (y274 ++ t284) a0_0 l0_1 a0_2 a0_3 l0_4 l0_5 a0_6 a0_7 a0_8 l0_9 a0_10 a0_11 l0_12) else (none)) else (some (([] : List Int), t285))) = some (r1, r2) := H
    have A54 := Aside0.mk A540
    clear A540
    by_cases c55 : t285 = 0
    rotate_left
    · rw [if_neg c55] at H
      have c55b0 : (t285 == 0) = false := beq_eq_false_iff_ne.mpr c55
      have c55b1 : (t285 != 0) = true := bne_iff_ne.mpr c55
      obtain ⟨y291, hy291⟩ : ∃ y_ : List Int, y_ = ([] : List Int) := ⟨_, rfl⟩
      replace H : (some (y291, t285)) = some (r1, r2) := by (rw [hy291]; with_reducible exact H)
      have Ny291 := Aside0.mk hy291
      clear hy291
      simp only [Option.some.injEq, Prod.mk.injEq] at H
      obtain ⟨rfl, rfl⟩ := H
      have hcz61_0 : w50.cell? ⟨gb262, 0, none⟩ = some (.int .i64 a0_0) := (blk_cell BK262.out 0).trans rfl
      have hcz61_1 : w50.cell? ⟨gb262, 1, none⟩ = some (.slice A0_1 l0_1.length c0_1) := (blk_cell BK262.out 1).trans rfl
      have hcz61_2 : w50.cell? ⟨gb262, 2, none⟩ = some (.int .i64 a0_2) := (blk_cell BK262.out 2).trans rfl
      have hcz61_3 : w50.cell? ⟨gb262, 3, none⟩ = some (.bool a0_3) := (blk_cell BK262.out 3).trans rfl
      have hcz61_4 : w50.cell? ⟨gb262, 4, none⟩ = some (.slice A0_4 l0_4.length c0_4) := (blk_cell BK262.out 4).trans rfl
      have hcz61_5 : w50.cell? ⟨gb262, 5, none⟩ = some (.slice A0_5 l0_5.length c0_5) := (blk_cell BK262.out 5).trans rfl
      have hcz61_6 : w50.cell? ⟨gb262, 6, none⟩ = some (.int .i64 a0_6) := (blk_cell BK262.out 6).trans rfl
      have hcz61_7 : w50.cell? ⟨gb262, 7, none⟩ = some (.int .i64 a0_7) := (blk_cell BK262.out 7).trans rfl
      have hcz61_8 : w50.cell? ⟨gb262, 8, none⟩ = some (.string a0_8) := (blk_cell BK262.out 8).trans rfl
      have hcz61_9 : w50.cell? ⟨gb262, 9, none⟩ = some (.slice A0_9 l0_9.length c0_9) := (blk_cell BK262.out 9).trans rfl
      have hcz61_10 : w50.cell? ⟨gb262, 10, none⟩ = some (.int .i64 a0_10) := (blk_cell BK262.out 10).trans rfl
      have hcz61_11 : w50.cell? ⟨gb262, 11, none⟩ = some (.int .i64 a0_11) := (blk_cell BK262.out 11).trans rfl
      have hcz61_12 : w50.cell? ⟨gb262, 12, none⟩ = some (.slice A0_12 l0_12.length c0_12) := (blk_cell BK262.out 12).trans rfl
      have hfz61_0 := blk_frozen BK262.out 0
      have hfz61_1 := blk_frozen BK262.out 1
      have hfz61_2 := blk_frozen BK262.out 2
      have hfz61_3 := blk_frozen BK262.out 3
      have hfz61_4 := blk_frozen BK262.out 4
      have hfz61_5 := blk_frozen BK262.out 5
      have hfz61_6 := blk_frozen BK262.out 6
      have hfz61_7 := blk_frozen BK262.out 7
      have hfz61_8 := blk_frozen BK262.out 8
      have hfz61_9 := blk_frozen BK262.out 9
      have hfz61_10 := blk_frozen BK262.out 10
      have hfz61_11 := blk_frozen BK262.out 11
      have hfz61_12 := blk_frozen BK262.out 12
      go_wp2_with (first | ((with_reducible refine gate_callee (f := 42) rfl ?_); refine goesL_ (some 86) rfl rfl Try.func42 (by kernel_rfl) rfl #[.slice A0_1 l0_1.length c0_1] rfl (by (try simp only [List.map_toArray, List.map_cons, List.map_nil]); (rfl)) ?_; (with_reducible refine (notaryref36_List.calls kj16 _ _ l0_1 t284 t285 _ ?side1 ?side2 A54.out).mono ?_); (case side1 => exact Kd.C_below HR0_1.out HB.out); (case side2 => exact HC0_1.out); rintro e w62 ⟨v286, rfl, ho0, hb⟩; refine ⟨_, rfl, ?_⟩; have n0_ := Aside0.mk (Kd.R_elder' (by exact HO276.out) (Kd.R_base ho0) hb); have n1_ := Aside0.mk (Kd.R_lower (Kd.R_new' ho0 (Kd.R_lt (by exact HO276.out))) (below_size HB.out)); have n2_ := Aside0.mk (blk_below (g := gb262) (o := .cells #[.int .i64 a0_0, .slice A0_1 l0_1.length c0_1, .int .i64 a0_2, .bool a0_3, .slice A0_4 l0_4.length c0_4, .slice A0_5 l0_5.length c0_5, .int .i64 a0_6, .int .i64 a0_7, .string a0_8, .slice A0_9 l0_9.length c0_9, .int .i64 a0_10, .int .i64 a0_11, .slice A0_12 l0_12.length c0_12] 42 (0, 0)) (by exact BK262.out) hb); have n3_ := Aside0.mk (below_step HB.out hb); clear HO276; clear BK262; clear HB; have HO276 := n0_; have HO287 := n1_; have BK262 := n2_; have HB := n3_; clear n0_ n1_ n2_ n3_; (try clear hb); (try clear ho0)) | ((with_reducible refine gate_dst (N := 91) rfl ?_); (try (refine gate_guard (by rfl) ?_; dsimp only)); refine Kd.R_lit (Kd.int .u8) _ 5 ?hg (N := 91) ?hd (xs := ([] : List Int)) (inner := []) (ok := fun _ => True) (okp := fun _ => True) ?hr ?hp (fun _ hk => hk) trivial (Below.refl _ _) (Nat.le_refl _) (by simp) ?_; (case hd => rfl); (case hg => rfl); (case hr => (go_simp; done)); (case hp => exact (Reps.none _ _)); intro v292 w63 ho64 hb hg_ hnew_; clear hg_ hnew_; (rw [← Ny291.out] at ho64); have n0_ := Aside0.mk (Kd.R_elder' (by exact HO276.out) (Kd.R_base ho64) hb); have n1_ := Aside0.mk (Kd.R_elder' (by exact HO287.out) (Kd.R_base ho64) hb); have n2_ := Aside0.mk (Kd.R_lower (Kd.R_new' (Kd.R_new' ho64 (Kd.R_lt (by exact HO276.out))) (Kd.R_lt (by exact HO287.out))) (below_size HB.out)); have n3_ := Aside0.mk (blk_below (g := gb262) (o := .cells #[.int .i64 a0_0, .slice A0_1 l0_1.length c0_1, .int .i64 a0_2, .bool a0_3, .slice A0_4 l0_4.length c0_4, .slice A0_5 l0_5.length c0_5, .int .i64 a0_6, .int .i64 a0_7, .string a0_8, .slice A0_9 l0_9.length c0_9, .int .i64 a0_10, .int .i64 a0_11, .slice A0_12 l0_12.length c0_12] 42 (0, 0)) (by exact BK262.out) hb); have n4_ := Aside0.mk (below_step HB.out hb); clear HO276; clear HO287; clear BK262; clear HB; have HO276 := n0_; have HO287 := n1_; have HO293 := n2_; have BK262 := n3_; have HB := n4_; clear n0_ n1_ n2_ n3_ n4_; clear hb ho64))
      go_ret2
      exact ⟨_, by (rfl), by exact Kd.R_mono HO293.out (fun _ hk => trivial), HB.out⟩
    rw [if_pos c55] at H
    have c55b0 : (t285 == 0) = true := beq_iff_eq.mpr c55
    have c55b1 : (t285 != 0) = false := bne_eq_false_iff_eq.mpr c55
    clear c55
    by_cases c56 : y274.length + t284.length < 140737488355328
    rotate_left
    · rw [if_neg c56] at H
      exact absurd H (by simp)
    rw [if_pos c56] at H
    have LMc56 := Aside0.mk c56
    clear c56
    obtain ⟨y288, hy288⟩ : ∃ y_ : List Int, y_ = (y274 ++ t284) := ⟨_, rfl⟩
    replace H : (notaryref36_Deriv.j2 kj16 a1 y288 a0_0 l0_1 a0_2 a0_3 l0_4 l0_5 a0_6 a0_7 a0_8 l0_9 a0_10 a0_11 l0_12) = some (r1, r2) := by (rw [hy288]; with_reducible exact H)
    have Ny288 := Aside0.mk hy288
    clear hy288
    have H' := Aside0.mk H
    clear H
    have hcz57_0 : w50.cell? ⟨gb262, 0, none⟩ = some (.int .i64 a0_0) := (blk_cell BK262.out 0).trans rfl
    have hcz57_1 : w50.cell? ⟨gb262, 1, none⟩ = some (.slice A0_1 l0_1.length c0_1) := (blk_cell BK262.out 1).trans rfl
    have hcz57_2 : w50.cell? ⟨gb262, 2, none⟩ = some (.int .i64 a0_2) := (blk_cell BK262.out 2).trans rfl
    have hcz57_3 : w50.cell? ⟨gb262, 3, none⟩ = some (.bool a0_3) := (blk_cell BK262.out 3).trans rfl
    have hcz57_4 : w50.cell? ⟨gb262, 4, none⟩ = some (.slice A0_4 l0_4.length c0_4) := (blk_cell BK262.out 4).trans rfl
    have hcz57_5 : w50.cell? ⟨gb262, 5, none⟩ = some (.slice A0_5 l0_5.length c0_5) := (blk_cell BK262.out 5).trans rfl
    have hcz57_6 : w50.cell? ⟨gb262, 6, none⟩ = some (.int .i64 a0_6) := (blk_cell BK262.out 6).trans rfl
    have hcz57_7 : w50.cell? ⟨gb262, 7, none⟩ = some (.int .i64 a0_7) := (blk_cell BK262.out 7).trans rfl
    have hcz57_8 : w50.cell? ⟨gb262, 8, none⟩ = some (.string a0_8) := (blk_cell BK262.out 8).trans rfl
    have hcz57_9 : w50.cell? ⟨gb262, 9, none⟩ = some (.slice A0_9 l0_9.length c0_9) := (blk_cell BK262.out 9).trans rfl
    have hcz57_10 : w50.cell? ⟨gb262, 10, none⟩ = some (.int .i64 a0_10) := (blk_cell BK262.out 10).trans rfl
    have hcz57_11 : w50.cell? ⟨gb262, 11, none⟩ = some (.int .i64 a0_11) := (blk_cell BK262.out 11).trans rfl
    have hcz57_12 : w50.cell? ⟨gb262, 12, none⟩ = some (.slice A0_12 l0_12.length c0_12) := (blk_cell BK262.out 12).trans rfl
    have hfz57_0 := blk_frozen BK262.out 0
    have hfz57_1 := blk_frozen BK262.out 1
    have hfz57_2 := blk_frozen BK262.out 2
    have hfz57_3 := blk_frozen BK262.out 3
    have hfz57_4 := blk_frozen BK262.out 4
    have hfz57_5 := blk_frozen BK262.out 5
    have hfz57_6 := blk_frozen BK262.out 6
    have hfz57_7 := blk_frozen BK262.out 7
    have hfz57_8 := blk_frozen BK262.out 8
    have hfz57_9 := blk_frozen BK262.out 9
    have hfz57_10 := blk_frozen BK262.out 10
    have hfz57_11 := blk_frozen BK262.out 11
    have hfz57_12 := blk_frozen BK262.out 12
    go_wp2_with (first | ((with_reducible refine gate_callee (f := 42) rfl ?_); refine goesL_ (some 86) rfl rfl Try.func42 (by kernel_rfl) rfl #[.slice A0_1 l0_1.length c0_1] rfl (by (try simp only [List.map_toArray, List.map_cons, List.map_nil]); (rfl)) ?_; (with_reducible refine (notaryref36_List.calls kj16 _ _ l0_1 t284 t285 _ ?side1 ?side2 A54.out).mono ?_); (case side1 => exact Kd.C_below HR0_1.out HB.out); (case side2 => exact HC0_1.out); rintro e w58 ⟨v286, rfl, ho0, hb⟩; refine ⟨_, rfl, ?_⟩; have n0_ := Aside0.mk (Kd.R_elder' (by exact HO276.out) (Kd.R_base ho0) hb); have n1_ := Aside0.mk (Kd.R_lower (Kd.R_new' ho0 (Kd.R_lt (by exact HO276.out))) (below_size HB.out)); have n2_ := Aside0.mk (blk_below (g := gb262) (o := .cells #[.int .i64 a0_0, .slice A0_1 l0_1.length c0_1, .int .i64 a0_2, .bool a0_3, .slice A0_4 l0_4.length c0_4, .slice A0_5 l0_5.length c0_5, .int .i64 a0_6, .int .i64 a0_7, .string a0_8, .slice A0_9 l0_9.length c0_9, .int .i64 a0_10, .int .i64 a0_11, .slice A0_12 l0_12.length c0_12] 42 (0, 0)) (by exact BK262.out) hb); have n3_ := Aside0.mk (below_step HB.out hb); clear HO276; clear BK262; clear HB; have HO276 := n0_; have HO287 := n1_; have BK262 := n2_; have HB := n3_; clear n0_ n1_ n2_ n3_; (try clear hb); (try clear ho0); obtain ⟨Ao60, co60, eo60⟩ := Kd.R_slice HO287.out; subst eo60) | ((with_reducible refine gate_builtin (b := .append) (xs := #[.tmp 93, .tmp 94]) rfl ?_); (try (refine gate_guard (by rfl) ?_; dsimp only)); at_builtin; refine Kd.R_append_rows (Kd.int .u8) (w0 := w) w.heap.size rfl (.tmp 93) (.tmp 94) 22 5 (.int .u8 0) 1 rfl Try.underlying22 info5 rfl (by decide) (by omega) v275 y274 t284 _ _ _ (fun k_ => some k_ ≠ (.slice Ao60 t284.length co60 : Value).ownBlock) (fun _ => False) rfl rfl ?aO ?aR (fun _ _ h => h) (fun _ h => h.elim) ?aF ?aB ?aS ?aL ?_; (case aR => repeat ((exact (Kd.R_reads' HO287.out).2.2))); (case aB => exact HB.out); (case aF => exact (fun k_ hk => Kd.fresh' (Kd.R_lt (by exact HO287.out)) k_ hk)); (case aO => exact (by exact Kd.R_mono HO276.out (fun _ hk => hk.2))); (case aS => exact (below_size HB.out)); (case aL => have := LMc56.out; omega); intro v289 w59 ho hb hg hat; rw [← Ny288.out] at ho; have n0_ := Aside0.mk (blk_grown (g := gb262) (o := .cells #[.int .i64 a0_0, .slice A0_1 l0_1.length c0_1, .int .i64 a0_2, .bool a0_3, .slice A0_4 l0_4.length c0_4, .slice A0_5 l0_5.length c0_5, .int .i64 a0_6, .int .i64 a0_7, .string a0_8, .slice A0_9 l0_9.length c0_9, .int .i64 a0_10, .int .i64 a0_11, .slice A0_12 l0_12.length c0_12] 42 (0, 0)) (by exact BK262.out) hg (Kd.R_ne HO276.out BK262.out (by decide))); have n1_ := Aside0.mk (Kd.R_after (ok := (fun _ => True)) (by exact HO287.out) hg hat); have n2_ := Aside0.mk (hb); have n3_ := Aside0.mk (ho); clear BK262; clear HO287; clear HB; clear HO276; have BK262 := n0_; have HO287 := n1_; have HB := n2_; have HO290 := n3_; clear n0_ n1_ n2_ n3_; clear ho hb hg hat))
    go_meet
    case rel => exact ⟨_, (y288), H', ⟨by have := HJ6.out; have := HJ16.out; (omega)⟩, ⟨by exact Kd.R_mono HO290.out (fun _ hk => trivial)⟩, ⟨by exact BK262.out⟩, ⟨HB.out⟩⟩
  clear HC48
  try clear c38
  try clear c38b0
  try clear c38b1
  try clear hcz49_0
  try clear hcz49_1
  try clear hcz49_10
  try clear hcz49_11
  try clear hcz49_12
  try clear hcz49_2
  try clear hcz49_3
  try clear hcz49_4
  try clear hcz49_5
  try clear hcz49_6
  try clear hcz49_7
  try clear hcz49_8
  try clear hcz49_9
  try clear hcz52_0
  try clear hcz52_1
  try clear hcz52_10
  try clear hcz52_11
  try clear hcz52_12
  try clear hcz52_2
  try clear hcz52_3
  try clear hcz52_4
  try clear hcz52_5
  try clear hcz52_6
  try clear hcz52_7
  try clear hcz52_8
  try clear hcz52_9
  try clear hfz49_0
  try clear hfz49_1
  try clear hfz49_10
  try clear hfz49_11
  try clear hfz49_12
  try clear hfz49_2
  try clear hfz49_3
  try clear hfz49_4
  try clear hfz49_5
  try clear hfz49_6
  try clear hfz49_7
  try clear hfz49_8
  try clear hfz49_9
  try clear hfz52_0
  try clear hfz52_1
  try clear hfz52_10
  try clear hfz52_11
  try clear hfz52_12
  try clear hfz52_2
  try clear hfz52_3
  try clear hfz52_4
  try clear hfz52_5
  try clear hfz52_6
  try clear hfz52_7
  try clear hfz52_8
  try clear hfz52_9
  obtain ⟨kq, x6_47, HA, HJ47, HO_6, BK262, HB⟩ := hcut
  rcases kq with _ | kj47
  · exact absurd HA.out (by simp [notaryref36_Deriv.j2])
  have H := HA.out
  clear HA
  simp only [notaryref36_Deriv.j2] at H
  replace H := Option.bind_eq_some_iff.mp H
  obtain ⟨t294, A650, H⟩ := H
  replace H : (if x6_47.length + t294.length < 140737488355328 then (notaryref36_Deriv.l0 kj47 a1 (x6_47 ++ t294) 0 a0_0 l0_1 a0_2 a0_3 l0_4 l0_5 a0_6 a0_7 a0_8 l0_9 a0_10 a0_11 l0_12) else (none)) = some (r1, r2) := H
  have A65 := Aside0.mk A650
  clear A650
  by_cases c66 : x6_47.length + t294.length < 140737488355328
  rotate_left
  · rw [if_neg c66] at H
    exact absurd H (by simp)

  rw [if_pos c66] at H
  have LMc66 := Aside0.mk c66
  clear c66
  obtain ⟨y297, hy297⟩ : ∃ y_ : List Int, y_ = (x6_47 ++ t294) := ⟨_, rfl⟩
  replace H : (notaryref36_Deriv.l0 kj47 a1 y297 0 a0_0 l0_1 a0_2 a0_3 l0_4 l0_5 a0_6 a0_7 a0_8 l0_9 a0_10 a0_11 l0_12) = some (r1, r2) := by (rw [hy297]; with_reducible exact H)
  have Ny297 := Aside0.mk hy297
  clear hy297
  have H' := Aside0.mk H
  clear H
  have hcz67_0 : wc.cell? ⟨gb262, 0, none⟩ = some (.int .i64 a0_0) := (blk_cell BK262.out 0).trans rfl
  have hcz67_1 : wc.cell? ⟨gb262, 1, none⟩ = some (.slice A0_1 l0_1.length c0_1) := (blk_cell BK262.out 1).trans rfl
  have hcz67_2 : wc.cell? ⟨gb262, 2, none⟩ = some (.int .i64 a0_2) := (blk_cell BK262.out 2).trans rfl
  have hcz67_3 : wc.cell? ⟨gb262, 3, none⟩ = some (.bool a0_3) := (blk_cell BK262.out 3).trans rfl
  have hcz67_4 : wc.cell? ⟨gb262, 4, none⟩ = some (.slice A0_4 l0_4.length c0_4) := (blk_cell BK262.out 4).trans rfl
  have hcz67_5 : wc.cell? ⟨gb262, 5, none⟩ = some (.slice A0_5 l0_5.length c0_5) := (blk_cell BK262.out 5).trans rfl
  have hcz67_6 : wc.cell? ⟨gb262, 6, none⟩ = some (.int .i64 a0_6) := (blk_cell BK262.out 6).trans rfl
  have hcz67_7 : wc.cell? ⟨gb262, 7, none⟩ = some (.int .i64 a0_7) := (blk_cell BK262.out 7).trans rfl
  have hcz67_8 : wc.cell? ⟨gb262, 8, none⟩ = some (.string a0_8) := (blk_cell BK262.out 8).trans rfl
  have hcz67_9 : wc.cell? ⟨gb262, 9, none⟩ = some (.slice A0_9 l0_9.length c0_9) := (blk_cell BK262.out 9).trans rfl
  have hcz67_10 : wc.cell? ⟨gb262, 10, none⟩ = some (.int .i64 a0_10) := (blk_cell BK262.out 10).trans rfl
  have hcz67_11 : wc.cell? ⟨gb262, 11, none⟩ = some (.int .i64 a0_11) := (blk_cell BK262.out 11).trans rfl
  have hcz67_12 : wc.cell? ⟨gb262, 12, none⟩ = some (.slice A0_12 l0_12.length c0_12) := (blk_cell BK262.out 12).trans rfl
  have hfz67_0 := blk_frozen BK262.out 0
  have hfz67_1 := blk_frozen BK262.out 1
  have hfz67_2 := blk_frozen BK262.out 2
  have hfz67_3 := blk_frozen BK262.out 3
  have hfz67_4 := blk_frozen BK262.out 4
  have hfz67_5 := blk_frozen BK262.out 5
  have hfz67_6 := blk_frozen BK262.out 6
  have hfz67_7 := blk_frozen BK262.out 7
  have hfz67_8 := blk_frozen BK262.out 8
  have hfz67_9 := blk_frozen BK262.out 9
  have hfz67_10 := blk_frozen BK262.out 10
  have hfz67_11 := blk_frozen BK262.out 11
  have hfz67_12 := blk_frozen BK262.out 12
  go_wp2_with (first | ((with_reducible refine gate_callee (f := 34) rfl ?_); refine goesL_ (some 101) rfl rfl Try.func34 (by kernel_rfl) rfl #[.int .u64 (IntKind.u64.wrap (l0_12.length : Int))] rfl (by (try simp only [List.map_toArray, List.map_cons, List.map_nil]); (rfl)) ?_; (with_reducible refine (notaryref01_Bytes.calls kj47 (IntKind.u64.wrap (l0_12.length : Int)) t294 _ A65.out).mono ?_); rintro e w68 ⟨v295, rfl, ho0, hb⟩; refine ⟨_, rfl, ?_⟩; have n0_ := Aside0.mk (Kd.R_elder' (by exact HO_6.out) (Kd.R_base ho0) hb); have n1_ := Aside0.mk (Kd.R_lower (Kd.R_new' ho0 (Kd.R_lt (by exact HO_6.out))) (below_size HB.out)); have n2_ := Aside0.mk (blk_below (g := gb262) (o := .cells #[.int .i64 a0_0, .slice A0_1 l0_1.length c0_1, .int .i64 a0_2, .bool a0_3, .slice A0_4 l0_4.length c0_4, .slice A0_5 l0_5.length c0_5, .int .i64 a0_6, .int .i64 a0_7, .string a0_8, .slice A0_9 l0_9.length c0_9, .int .i64 a0_10, .int .i64 a0_11, .slice A0_12 l0_12.length c0_12] 42 (0, 0)) (by exact BK262.out) hb); have n3_ := Aside0.mk (below_step HB.out hb); clear HO_6; clear BK262; clear HB; have HO_6 := n0_; have HO296 := n1_; have BK262 := n2_; have HB := n3_; clear n0_ n1_ n2_ n3_; (try clear hb); (try clear ho0); obtain ⟨Ao70, co70, eo70⟩ := Kd.R_slice HO296.out; subst eo70) | ((with_reducible refine gate_builtin (b := .append) (xs := #[.tmp 96, .tmp 101]) rfl ?_); (try (refine gate_guard (by rfl) ?_; dsimp only)); at_builtin; refine Kd.R_append_rows (Kd.int .u8) (w0 := w) w.heap.size rfl (.tmp 96) (.tmp 101) 22 5 (.int .u8 0) 1 rfl Try.underlying22 info5 rfl (by decide) (by omega) u6 x6_47 t294 _ _ _ (fun k_ => some k_ ≠ (.slice Ao70 t294.length co70 : Value).ownBlock) (fun _ => False) rfl rfl ?aO ?aR (fun _ _ h => h) (fun _ h => h.elim) ?aF ?aB ?aS ?aL ?_; (case aR => repeat ((exact (Kd.R_reads' HO296.out).2.2))); (case aB => exact HB.out); (case aF => exact (fun k_ hk => Kd.fresh' (Kd.R_lt (by exact HO296.out)) k_ hk)); (case aO => exact (by exact Kd.R_mono HO_6.out (fun _ hk => hk.2))); (case aS => exact (below_size HB.out)); (case aL => have := LMc66.out; omega); intro v298 w69 ho hb hg hat; rw [← Ny297.out] at ho; have n0_ := Aside0.mk (blk_grown (g := gb262) (o := .cells #[.int .i64 a0_0, .slice A0_1 l0_1.length c0_1, .int .i64 a0_2, .bool a0_3, .slice A0_4 l0_4.length c0_4, .slice A0_5 l0_5.length c0_5, .int .i64 a0_6, .int .i64 a0_7, .string a0_8, .slice A0_9 l0_9.length c0_9, .int .i64 a0_10, .int .i64 a0_11, .slice A0_12 l0_12.length c0_12] 42 (0, 0)) (by exact BK262.out) hg (Kd.R_ne HO_6.out BK262.out (by decide))); have n1_ := Aside0.mk (Kd.R_after (ok := (fun _ => True)) (by exact HO296.out) hg hat); have n2_ := Aside0.mk (hb); have n3_ := Aside0.mk (ho); clear BK262; clear HO296; clear HB; clear HO_6; have BK262 := n0_; have HO296 := n1_; have HB := n2_; have HO299 := n3_; clear n0_ n1_ n2_ n3_; clear ho hb hg hat))
  go_loopg [6, 11] kj47 (fun kq v6 v11 w' => ∃ (x6_4 : List Int) (x11_4 : Int), v11 = .int .i64 x11_4 ∧ Aside0 (notaryref36_Deriv.l0 kq a1 x6_4 x11_4 a0_0 l0_1 a0_2 a0_3 l0_4 l0_5 a0_6 a0_7 a0_8 l0_9 a0_10 a0_11 l0_12 = some (r1, r2)) ∧ Aside0 (kq ≤ kj47) ∧ Aside0 (Kd.R (Kd.int .u8) 5 w' w.heap.size (fun _ => True) v6 x6_4) ∧ Aside0 (w'.heap[gb262]? = some (.cells #[.int .i64 a0_0, (.slice A0_1 l0_1.length c0_1), .int .i64 a0_2, .bool a0_3, (.slice A0_4 l0_4.length c0_4), (.slice A0_5 l0_5.length c0_5), .int .i64 a0_6, .int .i64 a0_7, .string a0_8, (.slice A0_9 l0_9.length c0_9), .int .i64 a0_10, .int .i64 a0_11, (.slice A0_12 l0_12.length c0_12)] 42 (0, 0))) ∧ Aside0 (Below w.heap.size w w'))
  case atStart => exact ⟨(y297), (0), (by (rfl)), H', ⟨Nat.le_refl _⟩, ⟨by exact Kd.R_mono HO299.out (fun _ hk => trivial)⟩, ⟨by exact BK262.out⟩, ⟨HB.out⟩⟩
  clear H'
  try clear hcz67_0
  try clear hcz67_1
  try clear hcz67_10
  try clear hcz67_11
  try clear hcz67_12
  try clear hcz67_2
  try clear hcz67_3
  try clear hcz67_4
  try clear hcz67_5
  try clear hcz67_6
  try clear hcz67_7
  try clear hcz67_8
  try clear hcz67_9
  try clear hfz67_0
  try clear hfz67_1
  try clear hfz67_10
  try clear hfz67_11
  try clear hfz67_12
  try clear hfz67_2
  try clear hfz67_3
  try clear hfz67_4
  try clear hfz67_5
  try clear hfz67_6
  try clear hfz67_7
  try clear hfz67_8
  try clear hfz67_9
  obtain ⟨x6_4, x11_4, rfl, HA, HK4, HO_6, BK262, HB⟩ := hrel
  rcases gk with _ | k4
  · exact absurd HA.out (by simp [notaryref36_Deriv.l0])
  have H := HA.out
  clear HA
  simp only [notaryref36_Deriv.l0] at H
  by_cases c71 : x11_4 < (l0_12.length : Int)
  rotate_left
  · rw [if_neg c71] at H
    have c71b0 : decide (x11_4 < (l0_12.length : Int)) = false := decide_eq_false c71
    clear c71
    simp only [Option.some.injEq, Prod.mk.injEq] at H
    obtain ⟨rfl, rfl⟩ := H
    have hcz84_0 : wr.cell? ⟨gb262, 0, none⟩ = some (.int .i64 a0_0) := (blk_cell BK262.out 0).trans rfl
    have hcz84_1 : wr.cell? ⟨gb262, 1, none⟩ = some (.slice A0_1 l0_1.length c0_1) := (blk_cell BK262.out 1).trans rfl
    have hcz84_2 : wr.cell? ⟨gb262, 2, none⟩ = some (.int .i64 a0_2) := (blk_cell BK262.out 2).trans rfl
    have hcz84_3 : wr.cell? ⟨gb262, 3, none⟩ = some (.bool a0_3) := (blk_cell BK262.out 3).trans rfl
    have hcz84_4 : wr.cell? ⟨gb262, 4, none⟩ = some (.slice A0_4 l0_4.length c0_4) := (blk_cell BK262.out 4).trans rfl
    have hcz84_5 : wr.cell? ⟨gb262, 5, none⟩ = some (.slice A0_5 l0_5.length c0_5) := (blk_cell BK262.out 5).trans rfl
    have hcz84_6 : wr.cell? ⟨gb262, 6, none⟩ = some (.int .i64 a0_6) := (blk_cell BK262.out 6).trans rfl
    have hcz84_7 : wr.cell? ⟨gb262, 7, none⟩ = some (.int .i64 a0_7) := (blk_cell BK262.out 7).trans rfl
    have hcz84_8 : wr.cell? ⟨gb262, 8, none⟩ = some (.string a0_8) := (blk_cell BK262.out 8).trans rfl
    have hcz84_9 : wr.cell? ⟨gb262, 9, none⟩ = some (.slice A0_9 l0_9.length c0_9) := (blk_cell BK262.out 9).trans rfl
    have hcz84_10 : wr.cell? ⟨gb262, 10, none⟩ = some (.int .i64 a0_10) := (blk_cell BK262.out 10).trans rfl
    have hcz84_11 : wr.cell? ⟨gb262, 11, none⟩ = some (.int .i64 a0_11) := (blk_cell BK262.out 11).trans rfl
    have hcz84_12 : wr.cell? ⟨gb262, 12, none⟩ = some (.slice A0_12 l0_12.length c0_12) := (blk_cell BK262.out 12).trans rfl
    have hfz84_0 := blk_frozen BK262.out 0
    have hfz84_1 := blk_frozen BK262.out 1
    have hfz84_2 := blk_frozen BK262.out 2
    have hfz84_3 := blk_frozen BK262.out 3
    have hfz84_4 := blk_frozen BK262.out 4
    have hfz84_5 := blk_frozen BK262.out 5
    have hfz84_6 := blk_frozen BK262.out 6
    have hfz84_7 := blk_frozen BK262.out 7
    have hfz84_8 := blk_frozen BK262.out 8
    have hfz84_9 := blk_frozen BK262.out 9
    have hfz84_10 := blk_frozen BK262.out 10
    have hfz84_11 := blk_frozen BK262.out 11
    have hfz84_12 := blk_frozen BK262.out 12
    go_wp2
    go_ret2
    exact ⟨_, by (rfl), by exact HO_6.out, HB.out⟩
  rw [if_pos c71] at H
  have c71b0 : decide (x11_4 < (l0_12.length : Int)) = true := decide_eq_true c71
  clear c71
  by_cases c72 : 0 ≤ x11_4
  rotate_left
  · rw [if_neg c72] at H
    exact absurd H (by simp)
  rw [if_pos c72] at H
  have c72b0 : decide (0 ≤ x11_4) = true := decide_eq_true c72
  clear c72
  replace H := Option.bind_eq_some_iff.mp H
  obtain ⟨⟨t301, t304⟩, A730, H⟩ := H
  replace H : (if t304 = 0 then (if x6_4.length + t301.length < 140737488355328 then (notaryref36_Deriv.l0 k4 a1 (x6_4 ++ t301) (wrap64 (x11_4 + 1)) a0_0 l0_1 a0_2 a0_3 l0_4 l0_5 a0_6 a0_7 a0_8 l0_9 a0_10 a0_11 l0_12) else (none)) else (some (([] : List Int), t304))) = some (r1, r2) := H
  have A73 := Aside0.mk A730
  clear A730
  by_cases c74 : t304 = 0
  rotate_left
  · rw [if_neg c74] at H
    have c74b0 : (t304 == 0) = false := beq_eq_false_iff_ne.mpr c74
    have c74b1 : (t304 != 0) = true := bne_iff_ne.mpr c74
    obtain ⟨y308, hy308⟩ : ∃ y_ : List Int, y_ = ([] : List Int) := ⟨_, rfl⟩
    replace H : (some (y308, t304)) = some (r1, r2) := by (rw [hy308]; with_reducible exact H)
    have Ny308 := Aside0.mk hy308
    clear hy308
    simp only [Option.some.injEq, Prod.mk.injEq] at H
    obtain ⟨rfl, rfl⟩ := H
    have hcz80_0 : wr.cell? ⟨gb262, 0, none⟩ = some (.int .i64 a0_0) := (blk_cell BK262.out 0).trans rfl
    have hcz80_1 : wr.cell? ⟨gb262, 1, none⟩ = some (.slice A0_1 l0_1.length c0_1) := (blk_cell BK262.out 1).trans rfl
    have hcz80_2 : wr.cell? ⟨gb262, 2, none⟩ = some (.int .i64 a0_2) := (blk_cell BK262.out 2).trans rfl
    have hcz80_3 : wr.cell? ⟨gb262, 3, none⟩ = some (.bool a0_3) := (blk_cell BK262.out 3).trans rfl
    have hcz80_4 : wr.cell? ⟨gb262, 4, none⟩ = some (.slice A0_4 l0_4.length c0_4) := (blk_cell BK262.out 4).trans rfl
    have hcz80_5 : wr.cell? ⟨gb262, 5, none⟩ = some (.slice A0_5 l0_5.length c0_5) := (blk_cell BK262.out 5).trans rfl
    have hcz80_6 : wr.cell? ⟨gb262, 6, none⟩ = some (.int .i64 a0_6) := (blk_cell BK262.out 6).trans rfl
    have hcz80_7 : wr.cell? ⟨gb262, 7, none⟩ = some (.int .i64 a0_7) := (blk_cell BK262.out 7).trans rfl
    have hcz80_8 : wr.cell? ⟨gb262, 8, none⟩ = some (.string a0_8) := (blk_cell BK262.out 8).trans rfl
    have hcz80_9 : wr.cell? ⟨gb262, 9, none⟩ = some (.slice A0_9 l0_9.length c0_9) := (blk_cell BK262.out 9).trans rfl
    have hcz80_10 : wr.cell? ⟨gb262, 10, none⟩ = some (.int .i64 a0_10) := (blk_cell BK262.out 10).trans rfl
    have hcz80_11 : wr.cell? ⟨gb262, 11, none⟩ = some (.int .i64 a0_11) := (blk_cell BK262.out 11).trans rfl
    have hcz80_12 : wr.cell? ⟨gb262, 12, none⟩ = some (.slice A0_12 l0_12.length c0_12) := (blk_cell BK262.out 12).trans rfl
    have hfz80_0 := blk_frozen BK262.out 0
    have hfz80_1 := blk_frozen BK262.out 1
    have hfz80_2 := blk_frozen BK262.out 2
    have hfz80_3 := blk_frozen BK262.out 3
    have hfz80_4 := blk_frozen BK262.out 4
    have hfz80_5 := blk_frozen BK262.out 5
    have hfz80_6 := blk_frozen BK262.out 6
    have hfz80_7 := blk_frozen BK262.out 7
    have hfz80_8 := blk_frozen BK262.out 8
    have hfz80_9 := blk_frozen BK262.out 9
    have hfz80_10 := blk_frozen BK262.out 10
    have hfz80_11 := blk_frozen BK262.out 11
    have hfz80_12 := blk_frozen BK262.out 12
    have p300 : 0 ≤ (x11_4 : Int) := of_decide_eq_true (by (with_reducible assumption))
    have q300 : x11_4 < (l0_12.length : Int) := of_decide_eq_true (by (with_reducible assumption))
    obtain ⟨ad300, A300_1, c300_1, A300_4, c300_4, A300_5, c300_5, A300_9, c300_9, A300_12, c300_12, e300, hx300_0, hx300_1, hx300_2, hx300_3, hx300_4, hx300_5, hx300_6, hx300_7, hx300_8, hx300_9, hx300_10, hx300_11, hx300_12, hl300_1, hi300_1, hl300_4, hi300_4, hl300_5, hi300_5, hl300_9, hi300_9, hl300_12, hi300_12⟩ := at_T42 HR0_12.out x11_4 p300 q300
    cases e300
    replace hx300_0 := pw_cell_below HB.out hx300_0
    replace hx300_1 := pw_cell_below HB.out hx300_1
    replace hx300_2 := pw_cell_below HB.out hx300_2
    replace hx300_3 := pw_cell_below HB.out hx300_3
    replace hx300_4 := pw_cell_below HB.out hx300_4
    replace hx300_5 := pw_cell_below HB.out hx300_5
    replace hx300_6 := pw_cell_below HB.out hx300_6
    replace hx300_7 := pw_cell_below HB.out hx300_7
    replace hx300_8 := pw_cell_below HB.out hx300_8
    replace hx300_9 := pw_cell_below HB.out hx300_9
    replace hx300_10 := pw_cell_below HB.out hx300_10
    replace hx300_11 := pw_cell_below HB.out hx300_11
    replace hx300_12 := pw_cell_below HB.out hx300_12
    have HR300_1 := Aside0.mk hi300_1
    have HC300_1 := Aside0.mk hl300_1
    clear hi300_1 hl300_1
    have HR300_4 := Aside0.mk hi300_4
    have HC300_4 := Aside0.mk hl300_4
    clear hi300_4 hl300_4
    have HR300_5 := Aside0.mk hi300_5
    have HC300_5 := Aside0.mk hl300_5
    clear hi300_5 hl300_5
    have HR300_9 := Aside0.mk hi300_9
    have HC300_9 := Aside0.mk hl300_9
    clear hi300_9 hl300_9
    have HR300_12 := Aside0.mk hi300_12
    have HC300_12 := Aside0.mk hl300_12
    clear hi300_12 hl300_12
    replace p300 := eq_true p300
    replace q300 := eq_true q300
    go_wp2_with (first | ((with_reducible refine gate_callee (f := 17) rfl ?_); refine goesL_ (some 118) rfl rfl Try.func17 (by kernel_rfl) rfl #[.agg #[.int .i64 ((rd_T42 l0_12 x11_4).f0), .slice A300_1 ((rd_T42 l0_12 x11_4).f1).length c300_1, .int .i64 ((rd_T42 l0_12 x11_4).f2.f0), .bool ((rd_T42 l0_12 x11_4).f2.f1), .slice A300_4 ((rd_T42 l0_12 x11_4).f2.f2).length c300_4, .slice A300_5 ((rd_T42 l0_12 x11_4).f2.f3).length c300_5, .int .i64 ((rd_T42 l0_12 x11_4).f2.f4.f0), .int .i64 ((rd_T42 l0_12 x11_4).f2.f4.f1), .string ((rd_T42 l0_12 x11_4).f2.f4.f2), .slice A300_9 ((rd_T42 l0_12 x11_4).f2.f4.f3).length c300_9, .int .i64 ((rd_T42 l0_12 x11_4).f2.f4.f4), .int .i64 ((rd_T42 l0_12 x11_4).f2.f4.f5), .slice A300_12 ((rd_T42 l0_12 x11_4).f3).length c300_12], .int .i64 (wrap64 (a1 + 1))] rfl (by (try simp only [List.map_toArray, List.map_cons, List.map_nil]); (rfl)) ?_; (with_reducible refine (ih k4 (by have := HJ6.out; have := HJ16.out; have := HJ47.out; have := HK4.out; omega) ((rd_T42 l0_12 x11_4).f0) _ _ ((rd_T42 l0_12 x11_4).f1) ((rd_T42 l0_12 x11_4).f2.f0) ((rd_T42 l0_12 x11_4).f2.f1) _ _ ((rd_T42 l0_12 x11_4).f2.f2) _ _ ((rd_T42 l0_12 x11_4).f2.f3) ((rd_T42 l0_12 x11_4).f2.f4.f0) ((rd_T42 l0_12 x11_4).f2.f4.f1) ((rd_T42 l0_12 x11_4).f2.f4.f2) _ _ ((rd_T42 l0_12 x11_4).f2.f4.f3) ((rd_T42 l0_12 x11_4).f2.f4.f4) ((rd_T42 l0_12 x11_4).f2.f4.f5) _ _ ((rd_T42 l0_12 x11_4).f3) (wrap64 (a1 + 1)) t301 t304 _ ?side1 ?side2 ?side3 ?side4 ?side5 ?side6 ?side7 ?side8 ?side9 ?side10 A73.out).mono ?_); (case side1 => exact Kd.C_below HR300_1.out HB.out); (case side2 => exact HC300_1.out); (case side3 => exact Kd.C_below HR300_4.out HB.out); (case side4 => exact HC300_4.out); (case side5 => exact Kd.C_below HR300_5.out HB.out); (case side6 => exact HC300_5.out); (case side7 => exact Kd.C_below HR300_9.out HB.out); (case side8 => exact HC300_9.out); (case side9 => exact Kd.C_below HR300_12.out HB.out); (case side10 => exact HC300_12.out); rintro e w81 ⟨v302, rfl, ho0, hb⟩; refine ⟨_, rfl, ?_⟩; have n0_ := Aside0.mk (Kd.R_elder' (by exact HO_6.out) (Kd.R_base ho0) hb); have n1_ := Aside0.mk (Kd.R_lower (Kd.R_new' ho0 (Kd.R_lt (by exact HO_6.out))) (below_size HB.out)); have n2_ := Aside0.mk (blk_below (g := gb262) (o := .cells #[.int .i64 a0_0, .slice A0_1 l0_1.length c0_1, .int .i64 a0_2, .bool a0_3, .slice A0_4 l0_4.length c0_4, .slice A0_5 l0_5.length c0_5, .int .i64 a0_6, .int .i64 a0_7, .string a0_8, .slice A0_9 l0_9.length c0_9, .int .i64 a0_10, .int .i64 a0_11, .slice (some ad300) l0_12.length c0_12] 42 (0, 0)) (by exact BK262.out) hb); have n3_ := Aside0.mk (below_step HB.out hb); clear HO_6; clear BK262; clear HB; have HO_6 := n0_; have HO303 := n1_; have BK262 := n2_; have HB := n3_; clear n0_ n1_ n2_ n3_; (try clear hb); (try clear ho0)) | ((with_reducible refine gate_dst (N := 123) rfl ?_); (try (refine gate_guard (by rfl) ?_; dsimp only)); refine Kd.R_lit (Kd.int .u8) _ 5 ?hg (N := 123) ?hd (xs := ([] : List Int)) (inner := []) (ok := fun _ => True) (okp := fun _ => True) ?hr ?hp (fun _ hk => hk) trivial (Below.refl _ _) (Nat.le_refl _) (by simp) ?_; (case hd => rfl); (case hg => rfl); (case hr => (go_simp; done)); (case hp => exact (Reps.none _ _)); intro v309 w82 ho83 hb hg_ hnew_; clear hg_ hnew_; (rw [← Ny308.out] at ho83); have n0_ := Aside0.mk (Kd.R_elder' (by exact HO_6.out) (Kd.R_base ho83) hb); have n1_ := Aside0.mk (Kd.R_elder' (by exact HO303.out) (Kd.R_base ho83) hb); have n2_ := Aside0.mk (Kd.R_lower (Kd.R_new' (Kd.R_new' ho83 (Kd.R_lt (by exact HO_6.out))) (Kd.R_lt (by exact HO303.out))) (below_size HB.out)); have n3_ := Aside0.mk (blk_below (g := gb262) (o := .cells #[.int .i64 a0_0, .slice A0_1 l0_1.length c0_1, .int .i64 a0_2, .bool a0_3, .slice A0_4 l0_4.length c0_4, .slice A0_5 l0_5.length c0_5, .int .i64 a0_6, .int .i64 a0_7, .string a0_8, .slice A0_9 l0_9.length c0_9, .int .i64 a0_10, .int .i64 a0_11, .slice (some ad300) l0_12.length c0_12] 42 (0, 0)) (by exact BK262.out) hb); have n4_ := Aside0.mk (below_step HB.out hb); clear HO_6; clear HO303; clear BK262; clear HB; have HO_6 := n0_; have HO303 := n1_; have HO310 := n2_; have BK262 := n3_; have HB := n4_; clear n0_ n1_ n2_ n3_ n4_; clear hb ho83))
    go_ret2
    exact ⟨_, by (rfl), by exact Kd.R_mono HO310.out (fun _ hk => trivial), HB.out⟩
  rw [if_pos c74] at H
  have c74b0 : (t304 == 0) = true := beq_iff_eq.mpr c74
  have c74b1 : (t304 != 0) = false := bne_eq_false_iff_eq.mpr c74
  clear c74
  by_cases c75 : x6_4.length + t301.length < 140737488355328
  rotate_left
  · rw [if_neg c75] at H
    exact absurd H (by simp)
  rw [if_pos c75] at H
  have LMc75 := Aside0.mk c75
  clear c75
  obtain ⟨y305, hy305⟩ : ∃ y_ : List Int, y_ = (x6_4 ++ t301) := ⟨_, rfl⟩
  replace H : (notaryref36_Deriv.l0 k4 a1 y305 (wrap64 (x11_4 + 1)) a0_0 l0_1 a0_2 a0_3 l0_4 l0_5 a0_6 a0_7 a0_8 l0_9 a0_10 a0_11 l0_12) = some (r1, r2) := by (rw [hy305]; with_reducible exact H)
  have Ny305 := Aside0.mk hy305
  clear hy305
  have H' := Aside0.mk H
  clear H
  have hcz76_0 : wr.cell? ⟨gb262, 0, none⟩ = some (.int .i64 a0_0) := (blk_cell BK262.out 0).trans rfl
  have hcz76_1 : wr.cell? ⟨gb262, 1, none⟩ = some (.slice A0_1 l0_1.length c0_1) := (blk_cell BK262.out 1).trans rfl
  have hcz76_2 : wr.cell? ⟨gb262, 2, none⟩ = some (.int .i64 a0_2) := (blk_cell BK262.out 2).trans rfl
  have hcz76_3 : wr.cell? ⟨gb262, 3, none⟩ = some (.bool a0_3) := (blk_cell BK262.out 3).trans rfl
  have hcz76_4 : wr.cell? ⟨gb262, 4, none⟩ = some (.slice A0_4 l0_4.length c0_4) := (blk_cell BK262.out 4).trans rfl
  have hcz76_5 : wr.cell? ⟨gb262, 5, none⟩ = some (.slice A0_5 l0_5.length c0_5) := (blk_cell BK262.out 5).trans rfl
  have hcz76_6 : wr.cell? ⟨gb262, 6, none⟩ = some (.int .i64 a0_6) := (blk_cell BK262.out 6).trans rfl
  have hcz76_7 : wr.cell? ⟨gb262, 7, none⟩ = some (.int .i64 a0_7) := (blk_cell BK262.out 7).trans rfl
  have hcz76_8 : wr.cell? ⟨gb262, 8, none⟩ = some (.string a0_8) := (blk_cell BK262.out 8).trans rfl
  have hcz76_9 : wr.cell? ⟨gb262, 9, none⟩ = some (.slice A0_9 l0_9.length c0_9) := (blk_cell BK262.out 9).trans rfl
  have hcz76_10 : wr.cell? ⟨gb262, 10, none⟩ = some (.int .i64 a0_10) := (blk_cell BK262.out 10).trans rfl
  have hcz76_11 : wr.cell? ⟨gb262, 11, none⟩ = some (.int .i64 a0_11) := (blk_cell BK262.out 11).trans rfl
  have hcz76_12 : wr.cell? ⟨gb262, 12, none⟩ = some (.slice A0_12 l0_12.length c0_12) := (blk_cell BK262.out 12).trans rfl
  have hfz76_0 := blk_frozen BK262.out 0
  have hfz76_1 := blk_frozen BK262.out 1
  have hfz76_2 := blk_frozen BK262.out 2
  have hfz76_3 := blk_frozen BK262.out 3
  have hfz76_4 := blk_frozen BK262.out 4
  have hfz76_5 := blk_frozen BK262.out 5
  have hfz76_6 := blk_frozen BK262.out 6
  have hfz76_7 := blk_frozen BK262.out 7
  have hfz76_8 := blk_frozen BK262.out 8
  have hfz76_9 := blk_frozen BK262.out 9
  have hfz76_10 := blk_frozen BK262.out 10
  have hfz76_11 := blk_frozen BK262.out 11
  have hfz76_12 := blk_frozen BK262.out 12
  have p300 : 0 ≤ (x11_4 : Int) := of_decide_eq_true (by (with_reducible assumption))
  have q300 : x11_4 < (l0_12.length : Int) := of_decide_eq_true (by (with_reducible assumption))
  obtain ⟨ad300, A300_1, c300_1, A300_4, c300_4, A300_5, c300_5, A300_9, c300_9, A300_12, c300_12, e300, hx300_0, hx300_1, hx300_2, hx300_3, hx300_4, hx300_5, hx300_6, hx300_7, hx300_8, hx300_9, hx300_10, hx300_11, hx300_12, hl300_1, hi300_1, hl300_4, hi300_4, hl300_5, hi300_5, hl300_9, hi300_9, hl300_12, hi300_12⟩ := at_T42 HR0_12.out x11_4 p300 q300
  cases e300
  replace hx300_0 := pw_cell_below HB.out hx300_0
  replace hx300_1 := pw_cell_below HB.out hx300_1
  replace hx300_2 := pw_cell_below HB.out hx300_2
  replace hx300_3 := pw_cell_below HB.out hx300_3
  replace hx300_4 := pw_cell_below HB.out hx300_4
  replace hx300_5 := pw_cell_below HB.out hx300_5
  replace hx300_6 := pw_cell_below HB.out hx300_6
  replace hx300_7 := pw_cell_below HB.out hx300_7
  replace hx300_8 := pw_cell_below HB.out hx300_8
  replace hx300_9 := pw_cell_below HB.out hx300_9
  replace hx300_10 := pw_cell_below HB.out hx300_10
  replace hx300_11 := pw_cell_below HB.out hx300_11
  replace hx300_12 := pw_cell_below HB.out hx300_12
  have HR300_1 := Aside0.mk hi300_1
  have HC300_1 := Aside0.mk hl300_1
  clear hi300_1 hl300_1
  have HR300_4 := Aside0.mk hi300_4
  have HC300_4 := Aside0.mk hl300_4
  clear hi300_4 hl300_4
  have HR300_5 := Aside0.mk hi300_5
  have HC300_5 := Aside0.mk hl300_5
  clear hi300_5 hl300_5
  have HR300_9 := Aside0.mk hi300_9
  have HC300_9 := Aside0.mk hl300_9
  clear hi300_9 hl300_9
  have HR300_12 := Aside0.mk hi300_12
  have HC300_12 := Aside0.mk hl300_12
  clear hi300_12 hl300_12
  replace p300 := eq_true p300
  replace q300 := eq_true q300
  go_wp2_with (first | ((with_reducible refine gate_callee (f := 17) rfl ?_); refine goesL_ (some 118) rfl rfl Try.func17 (by kernel_rfl) rfl #[.agg #[.int .i64 ((rd_T42 l0_12 x11_4).f0), .slice A300_1 ((rd_T42 l0_12 x11_4).f1).length c300_1, .int .i64 ((rd_T42 l0_12 x11_4).f2.f0), .bool ((rd_T42 l0_12 x11_4).f2.f1), .slice A300_4 ((rd_T42 l0_12 x11_4).f2.f2).length c300_4, .slice A300_5 ((rd_T42 l0_12 x11_4).f2.f3).length c300_5, .int .i64 ((rd_T42 l0_12 x11_4).f2.f4.f0), .int .i64 ((rd_T42 l0_12 x11_4).f2.f4.f1), .string ((rd_T42 l0_12 x11_4).f2.f4.f2), .slice A300_9 ((rd_T42 l0_12 x11_4).f2.f4.f3).length c300_9, .int .i64 ((rd_T42 l0_12 x11_4).f2.f4.f4), .int .i64 ((rd_T42 l0_12 x11_4).f2.f4.f5), .slice A300_12 ((rd_T42 l0_12 x11_4).f3).length c300_12], .int .i64 (wrap64 (a1 + 1))] rfl (by (try simp only [List.map_toArray, List.map_cons, List.map_nil]); (rfl)) ?_; (with_reducible refine (ih k4 (by have := HJ6.out; have := HJ16.out; have := HJ47.out; have := HK4.out; omega) ((rd_T42 l0_12 x11_4).f0) _ _ ((rd_T42 l0_12 x11_4).f1) ((rd_T42 l0_12 x11_4).f2.f0) ((rd_T42 l0_12 x11_4).f2.f1) _ _ ((rd_T42 l0_12 x11_4).f2.f2) _ _ ((rd_T42 l0_12 x11_4).f2.f3) ((rd_T42 l0_12 x11_4).f2.f4.f0) ((rd_T42 l0_12 x11_4).f2.f4.f1) ((rd_T42 l0_12 x11_4).f2.f4.f2) _ _ ((rd_T42 l0_12 x11_4).f2.f4.f3) ((rd_T42 l0_12 x11_4).f2.f4.f4) ((rd_T42 l0_12 x11_4).f2.f4.f5) _ _ ((rd_T42 l0_12 x11_4).f3) (wrap64 (a1 + 1)) t301 t304 _ ?side1 ?side2 ?side3 ?side4 ?side5 ?side6 ?side7 ?side8 ?side9 ?side10 A73.out).mono ?_); (case side1 => exact Kd.C_below HR300_1.out HB.out); (case side2 => exact HC300_1.out); (case side3 => exact Kd.C_below HR300_4.out HB.out); (case side4 => exact HC300_4.out); (case side5 => exact Kd.C_below HR300_5.out HB.out); (case side6 => exact HC300_5.out); (case side7 => exact Kd.C_below HR300_9.out HB.out); (case side8 => exact HC300_9.out); (case side9 => exact Kd.C_below HR300_12.out HB.out); (case side10 => exact HC300_12.out); rintro e w77 ⟨v302, rfl, ho0, hb⟩; refine ⟨_, rfl, ?_⟩; have n0_ := Aside0.mk (Kd.R_elder' (by exact HO_6.out) (Kd.R_base ho0) hb); have n1_ := Aside0.mk (Kd.R_lower (Kd.R_new' ho0 (Kd.R_lt (by exact HO_6.out))) (below_size HB.out)); have n2_ := Aside0.mk (blk_below (g := gb262) (o := .cells #[.int .i64 a0_0, .slice A0_1 l0_1.length c0_1, .int .i64 a0_2, .bool a0_3, .slice A0_4 l0_4.length c0_4, .slice A0_5 l0_5.length c0_5, .int .i64 a0_6, .int .i64 a0_7, .string a0_8, .slice A0_9 l0_9.length c0_9, .int .i64 a0_10, .int .i64 a0_11, .slice (some ad300) l0_12.length c0_12] 42 (0, 0)) (by exact BK262.out) hb); have n3_ := Aside0.mk (below_step HB.out hb); clear HO_6; clear BK262; clear HB; have HO_6 := n0_; have HO303 := n1_; have BK262 := n2_; have HB := n3_; clear n0_ n1_ n2_ n3_; (try clear hb); (try clear ho0); obtain ⟨Ao79, co79, eo79⟩ := Kd.R_slice HO303.out; subst eo79) | ((with_reducible refine gate_builtin (b := .append) (xs := #[.tmp 125, .tmp 126]) rfl ?_); (try (refine gate_guard (by rfl) ?_; dsimp only)); at_builtin; refine Kd.R_append_rows (Kd.int .u8) (w0 := w) w.heap.size rfl (.tmp 125) (.tmp 126) 22 5 (.int .u8 0) 1 rfl Try.underlying22 info5 rfl (by decide) (by omega) u6 x6_4 t301 _ _ _ (fun k_ => some k_ ≠ (.slice Ao79 t301.length co79 : Value).ownBlock) (fun _ => False) rfl rfl ?aO ?aR (fun _ _ h => h) (fun _ h => h.elim) ?aF ?aB ?aS ?aL ?_; (case aR => repeat ((exact (Kd.R_reads' HO303.out).2.2))); (case aB => exact HB.out); (case aF => exact (fun k_ hk => Kd.fresh' (Kd.R_lt (by exact HO303.out)) k_ hk)); (case aO => exact (by exact Kd.R_mono HO_6.out (fun _ hk => hk.2))); (case aS => exact (below_size HB.out)); (case aL => have := LMc75.out; omega); intro v306 w78 ho hb hg hat; rw [← Ny305.out] at ho; have n0_ := Aside0.mk (blk_grown (g := gb262) (o := .cells #[.int .i64 a0_0, .slice A0_1 l0_1.length c0_1, .int .i64 a0_2, .bool a0_3, .slice A0_4 l0_4.length c0_4, .slice A0_5 l0_5.length c0_5, .int .i64 a0_6, .int .i64 a0_7, .string a0_8, .slice A0_9 l0_9.length c0_9, .int .i64 a0_10, .int .i64 a0_11, .slice (some ad300) l0_12.length c0_12] 42 (0, 0)) (by exact BK262.out) hg (Kd.R_ne HO_6.out BK262.out (by decide))); have n1_ := Aside0.mk (Kd.R_after (ok := (fun _ => True)) (by exact HO303.out) hg hat); have n2_ := Aside0.mk (hb); have n3_ := Aside0.mk (ho); clear BK262; clear HO303; clear HB; clear HO_6; have BK262 := n0_; have HO303 := n1_; have HB := n2_; have HO307 := n3_; clear n0_ n1_ n2_ n3_; clear ho hb hg hat))
  go_roundg k4
  case measure => have := HJ6.out; have := HJ16.out; have := HJ47.out; have := HK4.out; omega
  case rel => exact ⟨(y305), (wrap64 (x11_4 + 1)), (by (rfl)), H', ⟨by have := HJ6.out; have := HJ16.out; have := HJ47.out; have := HK4.out; omega⟩, ⟨by exact Kd.R_mono HO307.out (fun _ hk => trivial)⟩, ⟨by exact BK262.out⟩, ⟨HB.out⟩⟩
end Go.Proofs.Ytiamcmjdoobaeaa.PCd
