-- PRINTED by print.py (a twelfth state) out of the translation. Not trusted: Lean checks it.
import Derived.Test.YtppeaofdohghgaaPTmx0
namespace Go.Proofs.Ytppeaofdohghgaa.PTm
open Go.RowKit Go.Proofs.YtppeaofdohghgaaW.PrintWords Go.Proofs.YtppeaofdohghgaaW.PrintLast Go.Proofs.YtppeaofdohghgaaW.PrintMore
attribute [local go_sem] max2_int min2_int max_two min_two max_three min_three max_four min_four   -- for this text's walks alone
set_option linter.unusedVariables false
set_option linter.unusedSimpArgs false

/-! ### slices_Clone_int_int: function 51 (given) -/
def slices_Clone_int_int.f (l : List Int) : Option (List Int) := if l.length < 10000000000000 then some l else none
set_option maxHeartbeats 4000000 in
set_option maxRecDepth 100000 in
theorem slices_Clone_int_int.calls (A0 : Option Addr) (c0 : Nat) (l0 : List Int) (r : List Int) (w : World) (hr0 : Kd.C (Kd.int .i64) w A0 l0.length l0) (hc0 : l0.length ≤ c0) (h : slices_Clone_int_int.f l0 = some r) :
    Calls Try.prog 51 #[.slice A0 l0.length c0] w fun e w' => ∃ v0_ : Value, e = .returned (v0_) ∧ Kd.R (Kd.int .i64) 3 w' w.heap.size (fun _ => True) v0_ r ∧ Below w.heap.size w w' := by
  unfold slices_Clone_int_int.f at h
  by_cases hl : l0.length < 10000000000000
  case neg => rw [if_neg hl] at h; exact absurd h (by simp)
  rw [if_pos hl] at h
  obtain rfl := Option.some.inj h
  have HR := Aside0.mk hr0
  have HL := Aside0.mk hl
  clear hr0 hl h hc0
  have hk := fun W : World => Lib.run_eql_slice_nil (P := Try.prog) W 33 3 A0 l0.length c0 0 0 Try.underlying33
  cases A0 with
  | none =>
    have h0 : l0 = [] := by
      rcases l0 with _ | ⟨x, l⟩
      · rfl
      · obtain ⟨ad, h, _⟩ := HR.out.2.2 (by simp)
        cases h
    subst h0
    clear HR HL
    simp only [Option.isNone_none, List.length_nil] at hk
    go_enter Try.func51, Try.ntmps51
    go_wp2
    go_ret
    exact ⟨_, rfl, Kd.R_nil _ _ _ _ _, Below.refl _ _⟩
  | some ad =>
    simp only [Option.isNone_some] at hk
    go_enter Try.func51, Try.ntmps51
    go_wp2_with (first | ((with_reducible refine gate_dst (N := 5) rfl ?_); refine Kd.R_lit (Kd.int .i64) w.heap.size 3 ?hg (N := 5) ?hd (w0 := w) (xs := ([] : List Int)) (inner := []) (ok := fun _ => True) (okp := fun _ => True) ?hr ?hp (fun _ hk => hk) trivial (Below.refl _ _) (Nat.le_refl _) (by simp) ?_; (case hd => rfl); (case hg => rfl); (case hr => first | (go_simp; done) | (go_simp; rfl)); (case hp => exact Reps.none _ _); intro v5 w5 ho5 hb5 hg5 hn5; have HO5 := Aside0.mk ho5; have HB5 := Aside0.mk hb5; clear ho5 hb5 hg5 hn5) | ((with_reducible refine gate_builtin (b := .append) (xs := #[.tmp 5, .tmp 6]) rfl ?_); at_builtin; refine Kd.R_append_rows (Kd.int .i64) (w0 := w) w.heap.size rfl (.tmp 5) (.tmp 6) 33 3 (.int .i64 0) 8 rfl Try.underlying33 info3 rfl (by decide) (by omega) v5 [] l0 _ _ _ (fun _ => True) (fun _ => False) rfl rfl HO5.out (Kd.C_below HR.out HB5.out) (fun _ _ h => h) (fun _ h => h.elim) (fun _ _ => trivial) HB5.out HB5.out.size (by have := HL.out; simp; omega) ?_; intro v7 w7 ho7 hb7 hg7 hat7; have HO7 := Aside0.mk ho7; have HB7 := Aside0.mk hb7; clear ho7 hb7 hg7 hat7))
    go_ret
    exact ⟨_, rfl, HO7.out, HB7.out⟩

/-! ### notaryref06_Count: function 35 -/
mutual
def notaryref06_Count.l0 : Nat → Int → Int → Int → Int → Int → ByteArray → List (S24) → Int → Int → Option (Int)
  | 0, _, _, _, _, _, _, _, _, _ => none
  | k + 1, x1, x2, x7, x102000, x102001, x102002, x102003, x102004, x102005 => if x7 < (x102003.length : Int) then (if x1 ≥ 0 then (if 0 ≤ x7 then ((notaryref06_Count.f k ((rd_T24 x102003 x7).f0) ((rd_T24 x102003 x7).f1) ((rd_T24 x102003 x7).f2) ((rd_T24 x102003 x7).f3) ((rd_T24 x102003 x7).f4) ((rd_T24 x102003 x7).f5) x1 (wrap64 (x2 - 1))).bind fun t103 => (notaryref06_Count.l0 k t103 x2 (wrap64 (x7 + 1)) x102000 x102001 x102002 x102003 x102004 x102005)) else (none)) else (some x1)) else (some x1)
def notaryref06_Count.f : Nat → Int → Int → ByteArray → List (S24) → Int → Int → Int → Int → Option (Int)
  | 0, _, _, _, _, _, _, _, _ => none
  | k + 1, a0_0, a0_1, a0_2, l0_3, a0_4, a0_5, a1, a2 => if a2 ≤ 0 then (some (-1)) else (notaryref06_Count.l0 k (wrap64 (a1 - 1)) a2 0 a0_0 a0_1 a0_2 l0_3 a0_4 a0_5)
end
theorem notaryref06_Count.mono_l : ∀ k, (∀ y0 y1 y2 y3 y4 y5 y6 y7, LeO (notaryref06_Count.f k y0 y1 y2 y3 y4 y5 y6 y7) (notaryref06_Count.f (k + 1) y0 y1 y2 y3 y4 y5 y6 y7)) ∧ (∀ y0 y1 y2 y3 y4 y5 y6 y7 y8, LeO (notaryref06_Count.l0 k y0 y1 y2 y3 y4 y5 y6 y7 y8) (notaryref06_Count.l0 (k + 1) y0 y1 y2 y3 y4 y5 y6 y7 y8))
  | 0 => ⟨fun _ _ _ _ _ _ _ _ r h => by simp [notaryref06_Count.f] at h, fun _ _ _ _ _ _ _ _ _ r h => by simp [notaryref06_Count.l0] at h⟩
  | k + 1 => by
    obtain ⟨ih0, ih1⟩ := notaryref06_Count.mono_l k
    refine ⟨?_, ?_⟩
    · intro y0 y1 y2 y3 y4 y5 y6 y7
      unfold notaryref06_Count.f
      repeat' first
      | (with_reducible exact ih0 _ _ _ _ _ _ _ _)
      | (with_reducible exact ih1 _ _ _ _ _ _ _ _ _)
      | (with_reducible exact LeO.refl _)
      | (with_reducible exact LeO.none _)
      | (with_reducible refine LeO.ite ?_ ?_)
      | (with_reducible refine LeO.bind ?_ (fun _ => ?_))
      | exact ih0 _ _ _ _ _ _ _ _
      | exact ih1 _ _ _ _ _ _ _ _ _
      | exact LeO.none _
      | refine LeO.ite ?_ ?_
      | refine LeO.bind ?_ (fun _ => ?_)
    · intro y0 y1 y2 y3 y4 y5 y6 y7 y8
      unfold notaryref06_Count.l0
      repeat' first
      | (with_reducible exact ih0 _ _ _ _ _ _ _ _)
      | (with_reducible exact ih1 _ _ _ _ _ _ _ _ _)
      | (with_reducible exact LeO.refl _)
      | (with_reducible exact LeO.none _)
      | (with_reducible refine LeO.ite ?_ ?_)
      | (with_reducible refine LeO.bind ?_ (fun _ => ?_))
      | exact ih0 _ _ _ _ _ _ _ _
      | exact ih1 _ _ _ _ _ _ _ _ _
      | exact LeO.none _
      | refine LeO.ite ?_ ?_
      | refine LeO.bind ?_ (fun _ => ?_)
theorem notaryref06_Count.mono : ∀ a0 a1 a2 a3 a4 a5 a6 a7 k, LeO (notaryref06_Count.f k a0 a1 a2 a3 a4 a5 a6 a7) (notaryref06_Count.f (k + 1) a0 a1 a2 a3 a4 a5 a6 a7) := by
  intro a0 a1 a2 a3 a4 a5 a6 a7 k
  obtain ⟨ih0, ih1⟩ := notaryref06_Count.mono_l k
  exact ih0 a0 a1 a2 a3 a4 a5 a6 a7
set_option maxHeartbeats 8000000 in
set_option maxRecDepth 100000 in
theorem notaryref06_Count.calls (k : Nat) : ∀ (a0_0 : Int) (a0_1 : Int) (a0_2 : ByteArray) (A0_3 : Option Addr) (c0_3 : Nat) (l0_3 : List (S24)) (a0_4 : Int) (a0_5 : Int) (a1 : Int) (a2 : Int) (r : Int) (w : World) (hr0_3 : Kd.C k24 w A0_3 l0_3.length l0_3) (hc0_3 : l0_3.length ≤ c0_3) (h : notaryref06_Count.f k a0_0 a0_1 a0_2 l0_3 a0_4 a0_5 a1 a2 = some r),
    Calls Try.prog 35 #[.agg #[.int .i64 a0_0, .int .i64 a0_1, .string a0_2, .slice A0_3 l0_3.length c0_3, .int .i64 a0_4, .int .i64 a0_5], .int .i64 a1, .int .i64 a2] w fun e w' => e = .returned (.int .i64 r) ∧ Below w.heap.size w w' := by
  induction k using Nat.strongRecOn with
  | _ k ih =>
  intro a0_0 a0_1 a0_2 A0_3 c0_3 l0_3 a0_4 a0_5 a1 a2 r w hr0_3 hc0_3 h
  cases k with
  | zero => exact absurd h (by simp [notaryref06_Count.f])
  | succ k =>
  simp only [notaryref06_Count.f] at h
  have hu24 := Try.underlying24
  have HR0_3 := Aside0.mk hr0_3
  have HC0_3 := Aside0.mk hc0_3
  clear hr0_3 hc0_3
  have HB := Aside0.mk (Below.refl w.heap.size w)
  have H : (if a2 ≤ 0 then (some (-1)) else (notaryref06_Count.l0 k (wrap64 (a1 - 1)) a2 0 a0_0 a0_1 a0_2 l0_3 a0_4 a0_5)) = some r := h
  clear h
  by_cases c4 : a2 ≤ 0
  · rw [if_pos c4] at H
    have c4b0 : decide (a2 ≤ 0) = true := decide_eq_true c4
    clear c4
    obtain rfl := Option.some.inj H
    go_enter Try.func35, Try.ntmps35
    go_wp2_with (first | ((with_reducible refine gate_dst (N := 3) rfl ?_); refine box_event ?hg (N := 3) ?hd (cs := #[.int .i64 a0_0, .int .i64 a0_1, .string a0_2, .slice A0_3 l0_3.length c0_3, .int .i64 a0_4, .int .i64 a0_5]) (t := 24) ?hr ?_; (case hd => rfl); (case hg => rfl); (case hr => first | (go_simp; done) | (go_simp; rfl) | (go_simp; simp only [IntKind.wrap_u8, IntKind.wrap_u32, (fun x => Int.tmod_eq_emod_of_nonneg (Int.emod_nonneg x (by decide)) : ∀ x : Int, (x % 4294967296).tmod 256 = x % 4294967296 % 256), Int.emod_emod_of_dvd _ (show (256 : Int) ∣ 4294967296 by decide), Int.emod_emod]; done) | (go_simp; simp only [IntKind.wrap_u8, IntKind.wrap_u32, (fun x => Int.tmod_eq_emod_of_nonneg (Int.emod_nonneg x (by decide)) : ∀ x : Int, (x % 4294967296).tmod 256 = x % 4294967296 % 256), Int.emod_emod_of_dvd _ (show (256 : Int) ∣ 4294967296 by decide), Int.emod_emod]; rfl)); intro gb101 hg w5 hbox hb; have n0_ := Aside0.mk (below_step (by repeat (first | (with_reducible first | exact HB.out | apply below_alloc | apply pw_below_drewN | apply below_drew1) | exact HB.out)) hb); have n1_ := Aside0.mk (hbox); have n2_ := Aside0.mk ((by rw [hg]; exact (below_size (by repeat (first | (with_reducible first | exact HB.out | apply below_alloc | apply pw_below_drewN | apply below_drew1) | exact HB.out))) : w.heap.size ≤ gb101)); have n3_ := Aside0.mk ((by rw [hg]; exact (below_size (by repeat (first | (with_reducible first | exact HB.out | apply below_alloc | apply pw_below_drewN | apply below_drew1) | exact HB.out))) : w.heap.size ≤ gb101)); clear HB; have HB := n0_; have BK101 := n1_; have GW101 := n2_; have GE101 := n3_; clear n0_ n1_ n2_ n3_; clear hb hbox hg))
    go_ret
    exact ⟨by first | rfl | (simp [errW_none, errW_some] <;> rfl) | (simp [*, errW_none, errW_some] <;> rfl), by repeat (first | (with_reducible first | exact HB.out | apply below_alloc | apply pw_below_drewN | apply below_drew1 | refine below_set ?_ GE101.out) | exact HB.out)⟩
  · rw [if_neg c4] at H
    have c4b0 : decide (a2 ≤ 0) = false := decide_eq_false c4
    clear c4
    have H' := Aside0.mk H
    clear H
    go_enter Try.func35, Try.ntmps35
    go_wp2_with (first | ((with_reducible refine gate_dst (N := 3) rfl ?_); refine box_event ?hg (N := 3) ?hd (cs := #[.int .i64 a0_0, .int .i64 a0_1, .string a0_2, .slice A0_3 l0_3.length c0_3, .int .i64 a0_4, .int .i64 a0_5]) (t := 24) ?hr ?_; (case hd => rfl); (case hg => rfl); (case hr => first | (go_simp; done) | (go_simp; rfl) | (go_simp; simp only [IntKind.wrap_u8, IntKind.wrap_u32, (fun x => Int.tmod_eq_emod_of_nonneg (Int.emod_nonneg x (by decide)) : ∀ x : Int, (x % 4294967296).tmod 256 = x % 4294967296 % 256), Int.emod_emod_of_dvd _ (show (256 : Int) ∣ 4294967296 by decide), Int.emod_emod]; done) | (go_simp; simp only [IntKind.wrap_u8, IntKind.wrap_u32, (fun x => Int.tmod_eq_emod_of_nonneg (Int.emod_nonneg x (by decide)) : ∀ x : Int, (x % 4294967296).tmod 256 = x % 4294967296 % 256), Int.emod_emod_of_dvd _ (show (256 : Int) ∣ 4294967296 by decide), Int.emod_emod]; rfl)); intro gb101 hg w6 hbox hb; have n0_ := Aside0.mk (below_step (by repeat (first | (with_reducible first | exact HB.out | apply below_alloc | apply pw_below_drewN | apply below_drew1) | exact HB.out)) hb); have n1_ := Aside0.mk (hbox); have n2_ := Aside0.mk ((by rw [hg]; exact (below_size (by repeat (first | (with_reducible first | exact HB.out | apply below_alloc | apply pw_below_drewN | apply below_drew1) | exact HB.out))) : w.heap.size ≤ gb101)); have n3_ := Aside0.mk ((by rw [hg]; exact (below_size (by repeat (first | (with_reducible first | exact HB.out | apply below_alloc | apply pw_below_drewN | apply below_drew1) | exact HB.out))) : w.heap.size ≤ gb101)); clear HB; have HB := n0_; have BK101 := n1_; have GW101 := n2_; have GE101 := n3_; clear n0_ n1_ n2_ n3_; clear hb hbox hg))
    go_loopg [1, 7] k (fun kq v1 v7 w' => ∃ (x1_1 : Int) (x7_1 : Int), v1 = .int .i64 x1_1 ∧ v7 = .int .i64 x7_1 ∧ Aside0 (notaryref06_Count.l0 kq x1_1 a2 x7_1 a0_0 a0_1 a0_2 l0_3 a0_4 a0_5 = some r) ∧ Aside0 (kq ≤ k) ∧ Aside0 (w'.heap[gb101]? = some (.cells #[.int .i64 a0_0, .int .i64 a0_1, .string a0_2, (.slice A0_3 l0_3.length c0_3), .int .i64 a0_4, .int .i64 a0_5] 24 (0, 0))) ∧ Aside0 (Below w.heap.size w w'))
    case atStart => exact ⟨(wrap64 (a1 - 1)), (0), (by first | rfl | (simp; done) | (simp [*]; done)), (by first | rfl | (simp; done) | (simp [*]; done)), H', ⟨Nat.le_refl _⟩, ⟨by (with_reducible repeat (first | refine blk_drewN ?_ _ | refine blk_drew ?_ | refine blk_alloc ?_ _)); exact BK101.out⟩, ⟨by repeat (first | (with_reducible first | exact HB.out | apply below_alloc | apply pw_below_drewN | apply below_drew1 | refine below_set ?_ GE101.out) | exact HB.out)⟩⟩
    case round =>
      clear H'
      try clear p2
      try clear c3
      try clear c4
      try clear c4b0
      try clear p6
      obtain ⟨x1_1, x7_1, rfl, rfl, HA, HK1, BK101, HB⟩ := hrel
      cases gk with
      | zero => exact absurd HA.out (by simp [notaryref06_Count.l0])
      | succ k1 =>
        have H := HA.out
        clear HA
        simp only [notaryref06_Count.l0] at H
        by_cases c7 : x7_1 < (l0_3.length : Int)
        · rw [if_pos c7] at H
          have c7b0 : decide (x7_1 < (l0_3.length : Int)) = true := decide_eq_true c7
          clear c7
          by_cases c8 : x1_1 ≥ 0
          · rw [if_pos c8] at H
            have c8b0 : decide (0 ≤ x1_1) = true := decide_eq_true c8
            clear c8
            by_cases c9 : 0 ≤ x7_1
            · rw [if_pos c9] at H
              have c9b0 : decide (0 ≤ x7_1) = true := decide_eq_true c9
              clear c9
              replace H := Option.bind_eq_some_iff.mp H
              obtain ⟨t103, A100, H⟩ := H
              replace H : (notaryref06_Count.l0 k1 t103 a2 (wrap64 (x7_1 + 1)) a0_0 a0_1 a0_2 l0_3 a0_4 a0_5) = some r := H
              have A10 := Aside0.mk A100
              clear A100
              have H' := Aside0.mk H
              clear H
              have hcz11_0 : wr.cell? ⟨gb101, 0, none⟩ = some (.int .i64 a0_0) := (blk_cell BK101.out 0).trans rfl
              have hcz11_1 : wr.cell? ⟨gb101, 1, none⟩ = some (.int .i64 a0_1) := (blk_cell BK101.out 1).trans rfl
              have hcz11_2 : wr.cell? ⟨gb101, 2, none⟩ = some (.string a0_2) := (blk_cell BK101.out 2).trans rfl
              have hcz11_3 : wr.cell? ⟨gb101, 3, none⟩ = some (.slice A0_3 l0_3.length c0_3) := (blk_cell BK101.out 3).trans rfl
              have hcz11_4 : wr.cell? ⟨gb101, 4, none⟩ = some (.int .i64 a0_4) := (blk_cell BK101.out 4).trans rfl
              have hcz11_5 : wr.cell? ⟨gb101, 5, none⟩ = some (.int .i64 a0_5) := (blk_cell BK101.out 5).trans rfl
              have hfz11_0 := blk_frozen BK101.out 0
              have hfz11_1 := blk_frozen BK101.out 1
              have hfz11_2 := blk_frozen BK101.out 2
              have hfz11_3 := blk_frozen BK101.out 3
              have hfz11_4 := blk_frozen BK101.out 4
              have hfz11_5 := blk_frozen BK101.out 5
              have p102 : 0 ≤ (x7_1 : Int) := of_decide_eq_true (by first | (with_reducible assumption) | assumption)
              have q102 : x7_1 < (l0_3.length : Int) := of_decide_eq_true (by first | (with_reducible assumption) | assumption)
              obtain ⟨ad102, A102_3, c102_3, e102, hx102_0, hx102_1, hx102_2, hx102_3, hx102_4, hx102_5, hl102_3, hi102_3⟩ := at_T24 HR0_3.out x7_1 p102 q102
              cases e102
              replace hx102_0 := (HB.out.cell (World.block_lt_of_cell? w _ hx102_0)).trans hx102_0
              replace hx102_1 := (HB.out.cell (World.block_lt_of_cell? w _ hx102_1)).trans hx102_1
              replace hx102_2 := (HB.out.cell (World.block_lt_of_cell? w _ hx102_2)).trans hx102_2
              replace hx102_3 := (HB.out.cell (World.block_lt_of_cell? w _ hx102_3)).trans hx102_3
              replace hx102_4 := (HB.out.cell (World.block_lt_of_cell? w _ hx102_4)).trans hx102_4
              replace hx102_5 := (HB.out.cell (World.block_lt_of_cell? w _ hx102_5)).trans hx102_5
              have HR102_3 := Aside0.mk hi102_3
              have HC102_3 := Aside0.mk hl102_3
              clear hi102_3 hl102_3
              replace p102 := eq_true p102
              replace q102 := eq_true q102
              go_wp2_with (first | ((with_reducible refine gate_callee (f := 35) rfl ?_); refine goesL_ (some 31) rfl rfl Try.func35 (by kernel_rfl) rfl #[.agg #[.int .i64 ((rd_T24 l0_3 x7_1).f0), .int .i64 ((rd_T24 l0_3 x7_1).f1), .string ((rd_T24 l0_3 x7_1).f2), .slice A102_3 ((rd_T24 l0_3 x7_1).f3).length c102_3, .int .i64 ((rd_T24 l0_3 x7_1).f4), .int .i64 ((rd_T24 l0_3 x7_1).f5)], .int .i64 x1_1, .int .i64 (wrap64 (a2 - 1))] rfl (by (try simp only [List.map_toArray, List.map_cons, List.map_nil]); first | done | rfl | (simp only [List.length_drop, List.length_take]; rfl)) ?_; (with_reducible refine (ih k1 (by have := HK1.out; omega) ((rd_T24 l0_3 x7_1).f0) ((rd_T24 l0_3 x7_1).f1) ((rd_T24 l0_3 x7_1).f2) _ _ ((rd_T24 l0_3 x7_1).f3) ((rd_T24 l0_3 x7_1).f4) ((rd_T24 l0_3 x7_1).f5) x1_1 (wrap64 (a2 - 1)) t103 _ ?side1 ?side2 A10.out).mono ?_); (case side1 => repeat (first | exact (Kd.C_below HR102_3.out HB.out) | (with_reducible refine Kd.C_alloc ?_ _) | (with_reducible refine Kd.C_drewN ?_ _) | (with_reducible refine Kd.C_drew ?_))); (case side2 => exact HC102_3.out); rintro e w12 ⟨rfl, hb⟩; refine ⟨_, rfl, ?_⟩; have n0_ := Aside0.mk (blk_below (g := gb101) (o := .cells #[.int .i64 a0_0, .int .i64 a0_1, .string a0_2, .slice (some ad102) l0_3.length c0_3, .int .i64 a0_4, .int .i64 a0_5] 24 (0, 0)) (by (with_reducible repeat (first | refine blk_drewN ?_ _ | refine blk_drew ?_ | refine blk_alloc ?_ _)); exact BK101.out) hb); have n1_ := Aside0.mk (below_step (by repeat (first | (with_reducible first | exact HB.out | apply below_alloc | apply pw_below_drewN | apply below_drew1 | refine below_set ?_ GE101.out) | exact HB.out)) hb); clear BK101; clear HB; have BK101 := n0_; have HB := n1_; clear n0_ n1_; (try clear hb); (try clear hb2); (try clear hk); (try clear hi)))
              go_roundg k1
              case measure => have := HK1.out; omega
              case rel => exact ⟨(t103), (wrap64 (x7_1 + 1)), (by first | rfl | (simp; done) | (simp [*]; done)), (by first | rfl | (simp; done) | (simp [*]; done)), H', ⟨by have := HK1.out; omega⟩, ⟨by (with_reducible repeat (first | refine blk_drewN ?_ _ | refine blk_drew ?_ | refine blk_alloc ?_ _)); exact BK101.out⟩, ⟨by repeat (first | (with_reducible first | exact HB.out | apply below_alloc | apply pw_below_drewN | apply below_drew1 | refine below_set ?_ GE101.out) | exact HB.out)⟩⟩
            · rw [if_neg c9] at H
              exact absurd H (by simp)
          · rw [if_neg c8] at H
            have c8b0 : decide (0 ≤ x1_1) = false := decide_eq_false c8
            clear c8
            obtain rfl := Option.some.inj H
            have hcz13_0 : wr.cell? ⟨gb101, 0, none⟩ = some (.int .i64 a0_0) := (blk_cell BK101.out 0).trans rfl
            have hcz13_1 : wr.cell? ⟨gb101, 1, none⟩ = some (.int .i64 a0_1) := (blk_cell BK101.out 1).trans rfl
            have hcz13_2 : wr.cell? ⟨gb101, 2, none⟩ = some (.string a0_2) := (blk_cell BK101.out 2).trans rfl
            have hcz13_3 : wr.cell? ⟨gb101, 3, none⟩ = some (.slice A0_3 l0_3.length c0_3) := (blk_cell BK101.out 3).trans rfl
            have hcz13_4 : wr.cell? ⟨gb101, 4, none⟩ = some (.int .i64 a0_4) := (blk_cell BK101.out 4).trans rfl
            have hcz13_5 : wr.cell? ⟨gb101, 5, none⟩ = some (.int .i64 a0_5) := (blk_cell BK101.out 5).trans rfl
            have hfz13_0 := blk_frozen BK101.out 0
            have hfz13_1 := blk_frozen BK101.out 1
            have hfz13_2 := blk_frozen BK101.out 2
            have hfz13_3 := blk_frozen BK101.out 3
            have hfz13_4 := blk_frozen BK101.out 4
            have hfz13_5 := blk_frozen BK101.out 5
            go_wp2
            go_ret
            exact ⟨by first | rfl | (simp [errW_none, errW_some] <;> rfl) | (simp [*, errW_none, errW_some] <;> rfl), by repeat (first | (with_reducible first | exact HB.out | apply below_alloc | apply pw_below_drewN | apply below_drew1 | refine below_set ?_ GE101.out) | exact HB.out)⟩
        · rw [if_neg c7] at H
          have c7b0 : decide (x7_1 < (l0_3.length : Int)) = false := decide_eq_false c7
          clear c7
          obtain rfl := Option.some.inj H
          have hcz14_0 : wr.cell? ⟨gb101, 0, none⟩ = some (.int .i64 a0_0) := (blk_cell BK101.out 0).trans rfl
          have hcz14_1 : wr.cell? ⟨gb101, 1, none⟩ = some (.int .i64 a0_1) := (blk_cell BK101.out 1).trans rfl
          have hcz14_2 : wr.cell? ⟨gb101, 2, none⟩ = some (.string a0_2) := (blk_cell BK101.out 2).trans rfl
          have hcz14_3 : wr.cell? ⟨gb101, 3, none⟩ = some (.slice A0_3 l0_3.length c0_3) := (blk_cell BK101.out 3).trans rfl
          have hcz14_4 : wr.cell? ⟨gb101, 4, none⟩ = some (.int .i64 a0_4) := (blk_cell BK101.out 4).trans rfl
          have hcz14_5 : wr.cell? ⟨gb101, 5, none⟩ = some (.int .i64 a0_5) := (blk_cell BK101.out 5).trans rfl
          have hfz14_0 := blk_frozen BK101.out 0
          have hfz14_1 := blk_frozen BK101.out 1
          have hfz14_2 := blk_frozen BK101.out 2
          have hfz14_3 := blk_frozen BK101.out 3
          have hfz14_4 := blk_frozen BK101.out 4
          have hfz14_5 := blk_frozen BK101.out 5
          go_wp2
          go_ret
          exact ⟨by first | rfl | (simp [errW_none, errW_some] <;> rfl) | (simp [*, errW_none, errW_some] <;> rfl), by repeat (first | (with_reducible first | exact HB.out | apply below_alloc | apply pw_below_drewN | apply below_drew1 | refine below_set ?_ GE101.out) | exact HB.out)⟩

/-! ### notaryref06_Named: function 36 -/
mutual
def notaryref06_Named.l0 : Nat → Int → Int → Int → ByteArray → List (S24) → Int → Int → Option (Bool)
  | 0, _, _, _, _, _, _, _ => none
  | k + 1, x3, x105000, x105001, x105002, x105003, x105004, x105005 => if x3 < (x105003.length : Int) then (if 0 ≤ x3 then ((notaryref06_Named.f k ((rd_T24 x105003 x3).f0) ((rd_T24 x105003 x3).f1) ((rd_T24 x105003 x3).f2) ((rd_T24 x105003 x3).f3) ((rd_T24 x105003 x3).f4) ((rd_T24 x105003 x3).f5)).bind fun t106 => (if t106 = true then (some true) else (notaryref06_Named.l0 k (wrap64 (x3 + 1)) x105000 x105001 x105002 x105003 x105004 x105005))) else (none)) else (some false)
def notaryref06_Named.f : Nat → Int → Int → ByteArray → List (S24) → Int → Int → Option (Bool)
  | 0, _, _, _, _, _, _ => none
  | k + 1, a0_0, a0_1, a0_2, l0_3, a0_4, a0_5 => if (a0_2.size : Int) > 40 then (some true) else (notaryref06_Named.l0 k 0 a0_0 a0_1 a0_2 l0_3 a0_4 a0_5)
end
theorem notaryref06_Named.mono_l : ∀ k, (∀ y0 y1 y2 y3 y4 y5, LeO (notaryref06_Named.f k y0 y1 y2 y3 y4 y5) (notaryref06_Named.f (k + 1) y0 y1 y2 y3 y4 y5)) ∧ (∀ y0 y1 y2 y3 y4 y5 y6, LeO (notaryref06_Named.l0 k y0 y1 y2 y3 y4 y5 y6) (notaryref06_Named.l0 (k + 1) y0 y1 y2 y3 y4 y5 y6))
  | 0 => ⟨fun _ _ _ _ _ _ r h => by simp [notaryref06_Named.f] at h, fun _ _ _ _ _ _ _ r h => by simp [notaryref06_Named.l0] at h⟩
  | k + 1 => by
    obtain ⟨ih0, ih1⟩ := notaryref06_Named.mono_l k
    refine ⟨?_, ?_⟩
    · intro y0 y1 y2 y3 y4 y5
      unfold notaryref06_Named.f
      repeat' first
      | (with_reducible exact ih0 _ _ _ _ _ _)
      | (with_reducible exact ih1 _ _ _ _ _ _ _)
      | (with_reducible exact LeO.refl _)
      | (with_reducible exact LeO.none _)
      | (with_reducible refine LeO.ite ?_ ?_)
      | (with_reducible refine LeO.bind ?_ (fun _ => ?_))
      | exact ih0 _ _ _ _ _ _
      | exact ih1 _ _ _ _ _ _ _
      | exact LeO.none _
      | refine LeO.ite ?_ ?_
      | refine LeO.bind ?_ (fun _ => ?_)
    · intro y0 y1 y2 y3 y4 y5 y6
      unfold notaryref06_Named.l0
      repeat' first
      | (with_reducible exact ih0 _ _ _ _ _ _)
      | (with_reducible exact ih1 _ _ _ _ _ _ _)
      | (with_reducible exact LeO.refl _)
      | (with_reducible exact LeO.none _)
      | (with_reducible refine LeO.ite ?_ ?_)
      | (with_reducible refine LeO.bind ?_ (fun _ => ?_))
      | exact ih0 _ _ _ _ _ _
      | exact ih1 _ _ _ _ _ _ _
      | exact LeO.none _
      | refine LeO.ite ?_ ?_
      | refine LeO.bind ?_ (fun _ => ?_)
theorem notaryref06_Named.mono : ∀ a0 a1 a2 a3 a4 a5 k, LeO (notaryref06_Named.f k a0 a1 a2 a3 a4 a5) (notaryref06_Named.f (k + 1) a0 a1 a2 a3 a4 a5) := by
  intro a0 a1 a2 a3 a4 a5 k
  obtain ⟨ih0, ih1⟩ := notaryref06_Named.mono_l k
  exact ih0 a0 a1 a2 a3 a4 a5
set_option maxHeartbeats 8000000 in
set_option maxRecDepth 100000 in
theorem notaryref06_Named.calls (k : Nat) : ∀ (a0_0 : Int) (a0_1 : Int) (a0_2 : ByteArray) (A0_3 : Option Addr) (c0_3 : Nat) (l0_3 : List (S24)) (a0_4 : Int) (a0_5 : Int) (r : Bool) (w : World) (hr0_3 : Kd.C k24 w A0_3 l0_3.length l0_3) (hc0_3 : l0_3.length ≤ c0_3) (h : notaryref06_Named.f k a0_0 a0_1 a0_2 l0_3 a0_4 a0_5 = some r),
    Calls Try.prog 36 #[.agg #[.int .i64 a0_0, .int .i64 a0_1, .string a0_2, .slice A0_3 l0_3.length c0_3, .int .i64 a0_4, .int .i64 a0_5]] w fun e w' => e = .returned (.bool r) ∧ Below w.heap.size w w' := by
  induction k using Nat.strongRecOn with
  | _ k ih =>
  intro a0_0 a0_1 a0_2 A0_3 c0_3 l0_3 a0_4 a0_5 r w hr0_3 hc0_3 h
  cases k with
  | zero => exact absurd h (by simp [notaryref06_Named.f])
  | succ k =>
  simp only [notaryref06_Named.f] at h
  have hu24 := Try.underlying24
  have HR0_3 := Aside0.mk hr0_3
  have HC0_3 := Aside0.mk hc0_3
  clear hr0_3 hc0_3
  have HB := Aside0.mk (Below.refl w.heap.size w)
  have H : (if (a0_2.size : Int) > 40 then (some true) else (notaryref06_Named.l0 k 0 a0_0 a0_1 a0_2 l0_3 a0_4 a0_5)) = some r := h
  clear h
  by_cases c2 : (a0_2.size : Int) > 40
  · rw [if_pos c2] at H
    have c2b0 : decide (40 < (a0_2.size : Int)) = true := decide_eq_true c2
    have c2b1 : decide (40 < a0_2.size) = true := decide_eq_true (by omega)
    clear c2
    obtain rfl := Option.some.inj H
    go_enter Try.func36, Try.ntmps36
    go_wp2_with (first | ((with_reducible refine gate_dst (N := 1) rfl ?_); refine box_event ?hg (N := 1) ?hd (cs := #[.int .i64 a0_0, .int .i64 a0_1, .string a0_2, .slice A0_3 l0_3.length c0_3, .int .i64 a0_4, .int .i64 a0_5]) (t := 24) ?hr ?_; (case hd => rfl); (case hg => rfl); (case hr => first | (go_simp; done) | (go_simp; rfl) | (go_simp; simp only [IntKind.wrap_u8, IntKind.wrap_u32, (fun x => Int.tmod_eq_emod_of_nonneg (Int.emod_nonneg x (by decide)) : ∀ x : Int, (x % 4294967296).tmod 256 = x % 4294967296 % 256), Int.emod_emod_of_dvd _ (show (256 : Int) ∣ 4294967296 by decide), Int.emod_emod]; done) | (go_simp; simp only [IntKind.wrap_u8, IntKind.wrap_u32, (fun x => Int.tmod_eq_emod_of_nonneg (Int.emod_nonneg x (by decide)) : ∀ x : Int, (x % 4294967296).tmod 256 = x % 4294967296 % 256), Int.emod_emod_of_dvd _ (show (256 : Int) ∣ 4294967296 by decide), Int.emod_emod]; rfl)); intro gb104 hg w3 hbox hb; have n0_ := Aside0.mk (below_step (by repeat (first | (with_reducible first | exact HB.out | apply below_alloc | apply pw_below_drewN | apply below_drew1) | exact HB.out)) hb); have n1_ := Aside0.mk (hbox); have n2_ := Aside0.mk ((by rw [hg]; exact (below_size (by repeat (first | (with_reducible first | exact HB.out | apply below_alloc | apply pw_below_drewN | apply below_drew1) | exact HB.out))) : w.heap.size ≤ gb104)); have n3_ := Aside0.mk ((by rw [hg]; exact (below_size (by repeat (first | (with_reducible first | exact HB.out | apply below_alloc | apply pw_below_drewN | apply below_drew1) | exact HB.out))) : w.heap.size ≤ gb104)); clear HB; have HB := n0_; have BK104 := n1_; have GW104 := n2_; have GE104 := n3_; clear n0_ n1_ n2_ n3_; clear hb hbox hg; have hcz4_0 : w3.cell? ⟨gb104, 0, none⟩ = some (.int .i64 a0_0) := (blk_cell BK104.out 0).trans rfl; have hcz4_1 : w3.cell? ⟨gb104, 1, none⟩ = some (.int .i64 a0_1) := (blk_cell BK104.out 1).trans rfl; have hcz4_2 : w3.cell? ⟨gb104, 2, none⟩ = some (.string a0_2) := (blk_cell BK104.out 2).trans rfl; have hcz4_3 : w3.cell? ⟨gb104, 3, none⟩ = some (.slice A0_3 l0_3.length c0_3) := (blk_cell BK104.out 3).trans rfl; have hcz4_4 : w3.cell? ⟨gb104, 4, none⟩ = some (.int .i64 a0_4) := (blk_cell BK104.out 4).trans rfl; have hcz4_5 : w3.cell? ⟨gb104, 5, none⟩ = some (.int .i64 a0_5) := (blk_cell BK104.out 5).trans rfl; have hfz4_0 := blk_frozen BK104.out 0; have hfz4_1 := blk_frozen BK104.out 1; have hfz4_2 := blk_frozen BK104.out 2; have hfz4_3 := blk_frozen BK104.out 3; have hfz4_4 := blk_frozen BK104.out 4; have hfz4_5 := blk_frozen BK104.out 5))
    go_ret
    exact ⟨by first | rfl | (simp [errW_none, errW_some] <;> rfl) | (simp [*, errW_none, errW_some] <;> rfl), by repeat (first | (with_reducible first | exact HB.out | apply below_alloc | apply pw_below_drewN | apply below_drew1 | refine below_set ?_ GE104.out) | exact HB.out)⟩
  · rw [if_neg c2] at H
    have c2b0 : decide (40 < (a0_2.size : Int)) = false := decide_eq_false c2
    have c2b1 : decide (40 < a0_2.size) = false := decide_eq_false (by omega)
    clear c2
    have H' := Aside0.mk H
    clear H
    go_enter Try.func36, Try.ntmps36
    go_wp2_with (first | ((with_reducible refine gate_dst (N := 1) rfl ?_); refine box_event ?hg (N := 1) ?hd (cs := #[.int .i64 a0_0, .int .i64 a0_1, .string a0_2, .slice A0_3 l0_3.length c0_3, .int .i64 a0_4, .int .i64 a0_5]) (t := 24) ?hr ?_; (case hd => rfl); (case hg => rfl); (case hr => first | (go_simp; done) | (go_simp; rfl) | (go_simp; simp only [IntKind.wrap_u8, IntKind.wrap_u32, (fun x => Int.tmod_eq_emod_of_nonneg (Int.emod_nonneg x (by decide)) : ∀ x : Int, (x % 4294967296).tmod 256 = x % 4294967296 % 256), Int.emod_emod_of_dvd _ (show (256 : Int) ∣ 4294967296 by decide), Int.emod_emod]; done) | (go_simp; simp only [IntKind.wrap_u8, IntKind.wrap_u32, (fun x => Int.tmod_eq_emod_of_nonneg (Int.emod_nonneg x (by decide)) : ∀ x : Int, (x % 4294967296).tmod 256 = x % 4294967296 % 256), Int.emod_emod_of_dvd _ (show (256 : Int) ∣ 4294967296 by decide), Int.emod_emod]; rfl)); intro gb104 hg w5 hbox hb; have n0_ := Aside0.mk (below_step (by repeat (first | (with_reducible first | exact HB.out | apply below_alloc | apply pw_below_drewN | apply below_drew1) | exact HB.out)) hb); have n1_ := Aside0.mk (hbox); have n2_ := Aside0.mk ((by rw [hg]; exact (below_size (by repeat (first | (with_reducible first | exact HB.out | apply below_alloc | apply pw_below_drewN | apply below_drew1) | exact HB.out))) : w.heap.size ≤ gb104)); have n3_ := Aside0.mk ((by rw [hg]; exact (below_size (by repeat (first | (with_reducible first | exact HB.out | apply below_alloc | apply pw_below_drewN | apply below_drew1) | exact HB.out))) : w.heap.size ≤ gb104)); clear HB; have HB := n0_; have BK104 := n1_; have GW104 := n2_; have GE104 := n3_; clear n0_ n1_ n2_ n3_; clear hb hbox hg; have hcz6_0 : w5.cell? ⟨gb104, 0, none⟩ = some (.int .i64 a0_0) := (blk_cell BK104.out 0).trans rfl; have hcz6_1 : w5.cell? ⟨gb104, 1, none⟩ = some (.int .i64 a0_1) := (blk_cell BK104.out 1).trans rfl; have hcz6_2 : w5.cell? ⟨gb104, 2, none⟩ = some (.string a0_2) := (blk_cell BK104.out 2).trans rfl; have hcz6_3 : w5.cell? ⟨gb104, 3, none⟩ = some (.slice A0_3 l0_3.length c0_3) := (blk_cell BK104.out 3).trans rfl; have hcz6_4 : w5.cell? ⟨gb104, 4, none⟩ = some (.int .i64 a0_4) := (blk_cell BK104.out 4).trans rfl; have hcz6_5 : w5.cell? ⟨gb104, 5, none⟩ = some (.int .i64 a0_5) := (blk_cell BK104.out 5).trans rfl; have hfz6_0 := blk_frozen BK104.out 0; have hfz6_1 := blk_frozen BK104.out 1; have hfz6_2 := blk_frozen BK104.out 2; have hfz6_3 := blk_frozen BK104.out 3; have hfz6_4 := blk_frozen BK104.out 4; have hfz6_5 := blk_frozen BK104.out 5))
    go_loopg [3] k (fun kq v3 w' => ∃ (x3_1 : Int), v3 = .int .i64 x3_1 ∧ Aside0 (notaryref06_Named.l0 kq x3_1 a0_0 a0_1 a0_2 l0_3 a0_4 a0_5 = some r) ∧ Aside0 (kq ≤ k) ∧ Aside0 (w'.heap[gb104]? = some (.cells #[.int .i64 a0_0, .int .i64 a0_1, .string a0_2, (.slice A0_3 l0_3.length c0_3), .int .i64 a0_4, .int .i64 a0_5] 24 (0, 0))) ∧ Aside0 (Below w.heap.size w w'))
    case atStart => exact ⟨(0), (by first | rfl | (simp; done) | (simp [*]; done)), H', ⟨Nat.le_refl _⟩, ⟨by (with_reducible repeat (first | refine blk_drewN ?_ _ | refine blk_drew ?_ | refine blk_alloc ?_ _)); exact BK104.out⟩, ⟨by repeat (first | (with_reducible first | exact HB.out | apply below_alloc | apply pw_below_drewN | apply below_drew1 | refine below_set ?_ GE104.out) | exact HB.out)⟩⟩
    case round =>
      clear H'
      try clear c2
      try clear c2b0
      try clear c2b1
      try clear p2
      try clear c3
      try clear hcz4_0
      try clear hcz4_1
      try clear hcz4_2
      try clear hcz4_3
      try clear hcz4_4
      try clear hcz4_5
      try clear hcz6_0
      try clear hcz6_1
      try clear hcz6_2
      try clear hcz6_3
      try clear hcz6_4
      try clear hcz6_5
      try clear hfz4_0
      try clear hfz4_1
      try clear hfz4_2
      try clear hfz4_3
      try clear hfz4_4
      try clear hfz4_5
      try clear hfz6_0
      try clear hfz6_1
      try clear hfz6_2
      try clear hfz6_3
      try clear hfz6_4
      try clear hfz6_5
      obtain ⟨x3_1, rfl, HA, HK1, BK104, HB⟩ := hrel
      cases gk with
      | zero => exact absurd HA.out (by simp [notaryref06_Named.l0])
      | succ k1 =>
        have H := HA.out
        clear HA
        simp only [notaryref06_Named.l0] at H
        by_cases c7 : x3_1 < (l0_3.length : Int)
        · rw [if_pos c7] at H
          have c7b0 : decide (x3_1 < (l0_3.length : Int)) = true := decide_eq_true c7
          clear c7
          by_cases c8 : 0 ≤ x3_1
          · rw [if_pos c8] at H
            have c8b0 : decide (0 ≤ x3_1) = true := decide_eq_true c8
            clear c8
            replace H := Option.bind_eq_some_iff.mp H
            obtain ⟨t106, A90, H⟩ := H
            replace H : (if t106 = true then (some true) else (notaryref06_Named.l0 k1 (wrap64 (x3_1 + 1)) a0_0 a0_1 a0_2 l0_3 a0_4 a0_5)) = some r := H
            have A9 := Aside0.mk A90
            clear A90
            by_cases c10 : t106 = true
            · subst c10
              have H1 : (some true) = some r := by rw [if_pos rfl] at H; exact H
              clear H
              have H := H1
              clear H1
              obtain rfl := Option.some.inj H
              have hcz11_0 : wr.cell? ⟨gb104, 0, none⟩ = some (.int .i64 a0_0) := (blk_cell BK104.out 0).trans rfl
              have hcz11_1 : wr.cell? ⟨gb104, 1, none⟩ = some (.int .i64 a0_1) := (blk_cell BK104.out 1).trans rfl
              have hcz11_2 : wr.cell? ⟨gb104, 2, none⟩ = some (.string a0_2) := (blk_cell BK104.out 2).trans rfl
              have hcz11_3 : wr.cell? ⟨gb104, 3, none⟩ = some (.slice A0_3 l0_3.length c0_3) := (blk_cell BK104.out 3).trans rfl
              have hcz11_4 : wr.cell? ⟨gb104, 4, none⟩ = some (.int .i64 a0_4) := (blk_cell BK104.out 4).trans rfl
              have hcz11_5 : wr.cell? ⟨gb104, 5, none⟩ = some (.int .i64 a0_5) := (blk_cell BK104.out 5).trans rfl
              have hfz11_0 := blk_frozen BK104.out 0
              have hfz11_1 := blk_frozen BK104.out 1
              have hfz11_2 := blk_frozen BK104.out 2
              have hfz11_3 := blk_frozen BK104.out 3
              have hfz11_4 := blk_frozen BK104.out 4
              have hfz11_5 := blk_frozen BK104.out 5
              have p105 : 0 ≤ (x3_1 : Int) := of_decide_eq_true (by first | (with_reducible assumption) | assumption)
              have q105 : x3_1 < (l0_3.length : Int) := of_decide_eq_true (by first | (with_reducible assumption) | assumption)
              obtain ⟨ad105, A105_3, c105_3, e105, hx105_0, hx105_1, hx105_2, hx105_3, hx105_4, hx105_5, hl105_3, hi105_3⟩ := at_T24 HR0_3.out x3_1 p105 q105
              cases e105
              replace hx105_0 := (HB.out.cell (World.block_lt_of_cell? w _ hx105_0)).trans hx105_0
              replace hx105_1 := (HB.out.cell (World.block_lt_of_cell? w _ hx105_1)).trans hx105_1
              replace hx105_2 := (HB.out.cell (World.block_lt_of_cell? w _ hx105_2)).trans hx105_2
              replace hx105_3 := (HB.out.cell (World.block_lt_of_cell? w _ hx105_3)).trans hx105_3
              replace hx105_4 := (HB.out.cell (World.block_lt_of_cell? w _ hx105_4)).trans hx105_4
              replace hx105_5 := (HB.out.cell (World.block_lt_of_cell? w _ hx105_5)).trans hx105_5
              have HR105_3 := Aside0.mk hi105_3
              have HC105_3 := Aside0.mk hl105_3
              clear hi105_3 hl105_3
              replace p105 := eq_true p105
              replace q105 := eq_true q105
              go_wp2_with (first | ((with_reducible refine gate_callee (f := 36) rfl ?_); refine goesL_ (some 20) rfl rfl Try.func36 (by kernel_rfl) rfl #[.agg #[.int .i64 ((rd_T24 l0_3 x3_1).f0), .int .i64 ((rd_T24 l0_3 x3_1).f1), .string ((rd_T24 l0_3 x3_1).f2), .slice A105_3 ((rd_T24 l0_3 x3_1).f3).length c105_3, .int .i64 ((rd_T24 l0_3 x3_1).f4), .int .i64 ((rd_T24 l0_3 x3_1).f5)]] rfl (by (try simp only [List.map_toArray, List.map_cons, List.map_nil]); first | done | rfl | (simp only [List.length_drop, List.length_take]; rfl)) ?_; (with_reducible refine (ih k1 (by have := HK1.out; omega) ((rd_T24 l0_3 x3_1).f0) ((rd_T24 l0_3 x3_1).f1) ((rd_T24 l0_3 x3_1).f2) _ _ ((rd_T24 l0_3 x3_1).f3) ((rd_T24 l0_3 x3_1).f4) ((rd_T24 l0_3 x3_1).f5) true _ ?side1 ?side2 A9.out).mono ?_); (case side1 => repeat (first | exact (Kd.C_below HR105_3.out HB.out) | (with_reducible refine Kd.C_alloc ?_ _) | (with_reducible refine Kd.C_drewN ?_ _) | (with_reducible refine Kd.C_drew ?_))); (case side2 => exact HC105_3.out); rintro e w12 ⟨rfl, hb⟩; refine ⟨_, rfl, ?_⟩; have n0_ := Aside0.mk (blk_below (g := gb104) (o := .cells #[.int .i64 a0_0, .int .i64 a0_1, .string a0_2, .slice (some ad105) l0_3.length c0_3, .int .i64 a0_4, .int .i64 a0_5] 24 (0, 0)) (by (with_reducible repeat (first | refine blk_drewN ?_ _ | refine blk_drew ?_ | refine blk_alloc ?_ _)); exact BK104.out) hb); have n1_ := Aside0.mk (below_step (by repeat (first | (with_reducible first | exact HB.out | apply below_alloc | apply pw_below_drewN | apply below_drew1 | refine below_set ?_ GE104.out) | exact HB.out)) hb); clear BK104; clear HB; have BK104 := n0_; have HB := n1_; clear n0_ n1_; (try clear hb); (try clear hb2); (try clear hk); (try clear hi)))
              go_ret
              exact ⟨by first | rfl | (simp [errW_none, errW_some] <;> rfl) | (simp [*, errW_none, errW_some] <;> rfl), by repeat (first | (with_reducible first | exact HB.out | apply below_alloc | apply pw_below_drewN | apply below_drew1 | refine below_set ?_ GE104.out) | exact HB.out)⟩
            · replace c10 := Bool.eq_false_iff.mpr c10
              subst c10
              have H1 : (notaryref06_Named.l0 k1 (wrap64 (x3_1 + 1)) a0_0 a0_1 a0_2 l0_3 a0_4 a0_5) = some r := by rw [if_neg (show ¬ (false = true) by decide)] at H; exact H
              clear H
              have H := H1
              clear H1
              have H' := Aside0.mk H
              clear H
              have hcz13_0 : wr.cell? ⟨gb104, 0, none⟩ = some (.int .i64 a0_0) := (blk_cell BK104.out 0).trans rfl
              have hcz13_1 : wr.cell? ⟨gb104, 1, none⟩ = some (.int .i64 a0_1) := (blk_cell BK104.out 1).trans rfl
              have hcz13_2 : wr.cell? ⟨gb104, 2, none⟩ = some (.string a0_2) := (blk_cell BK104.out 2).trans rfl
              have hcz13_3 : wr.cell? ⟨gb104, 3, none⟩ = some (.slice A0_3 l0_3.length c0_3) := (blk_cell BK104.out 3).trans rfl
              have hcz13_4 : wr.cell? ⟨gb104, 4, none⟩ = some (.int .i64 a0_4) := (blk_cell BK104.out 4).trans rfl
              have hcz13_5 : wr.cell? ⟨gb104, 5, none⟩ = some (.int .i64 a0_5) := (blk_cell BK104.out 5).trans rfl
              have hfz13_0 := blk_frozen BK104.out 0
              have hfz13_1 := blk_frozen BK104.out 1
              have hfz13_2 := blk_frozen BK104.out 2
              have hfz13_3 := blk_frozen BK104.out 3
              have hfz13_4 := blk_frozen BK104.out 4
              have hfz13_5 := blk_frozen BK104.out 5
              have p105 : 0 ≤ (x3_1 : Int) := of_decide_eq_true (by first | (with_reducible assumption) | assumption)
              have q105 : x3_1 < (l0_3.length : Int) := of_decide_eq_true (by first | (with_reducible assumption) | assumption)
              obtain ⟨ad105, A105_3, c105_3, e105, hx105_0, hx105_1, hx105_2, hx105_3, hx105_4, hx105_5, hl105_3, hi105_3⟩ := at_T24 HR0_3.out x3_1 p105 q105
              cases e105
              replace hx105_0 := (HB.out.cell (World.block_lt_of_cell? w _ hx105_0)).trans hx105_0
              replace hx105_1 := (HB.out.cell (World.block_lt_of_cell? w _ hx105_1)).trans hx105_1
              replace hx105_2 := (HB.out.cell (World.block_lt_of_cell? w _ hx105_2)).trans hx105_2
              replace hx105_3 := (HB.out.cell (World.block_lt_of_cell? w _ hx105_3)).trans hx105_3
              replace hx105_4 := (HB.out.cell (World.block_lt_of_cell? w _ hx105_4)).trans hx105_4
              replace hx105_5 := (HB.out.cell (World.block_lt_of_cell? w _ hx105_5)).trans hx105_5
              have HR105_3 := Aside0.mk hi105_3
              have HC105_3 := Aside0.mk hl105_3
              clear hi105_3 hl105_3
              replace p105 := eq_true p105
              replace q105 := eq_true q105
              go_wp2_with (first | ((with_reducible refine gate_callee (f := 36) rfl ?_); refine goesL_ (some 20) rfl rfl Try.func36 (by kernel_rfl) rfl #[.agg #[.int .i64 ((rd_T24 l0_3 x3_1).f0), .int .i64 ((rd_T24 l0_3 x3_1).f1), .string ((rd_T24 l0_3 x3_1).f2), .slice A105_3 ((rd_T24 l0_3 x3_1).f3).length c105_3, .int .i64 ((rd_T24 l0_3 x3_1).f4), .int .i64 ((rd_T24 l0_3 x3_1).f5)]] rfl (by (try simp only [List.map_toArray, List.map_cons, List.map_nil]); first | done | rfl | (simp only [List.length_drop, List.length_take]; rfl)) ?_; (with_reducible refine (ih k1 (by have := HK1.out; omega) ((rd_T24 l0_3 x3_1).f0) ((rd_T24 l0_3 x3_1).f1) ((rd_T24 l0_3 x3_1).f2) _ _ ((rd_T24 l0_3 x3_1).f3) ((rd_T24 l0_3 x3_1).f4) ((rd_T24 l0_3 x3_1).f5) false _ ?side1 ?side2 A9.out).mono ?_); (case side1 => repeat (first | exact (Kd.C_below HR105_3.out HB.out) | (with_reducible refine Kd.C_alloc ?_ _) | (with_reducible refine Kd.C_drewN ?_ _) | (with_reducible refine Kd.C_drew ?_))); (case side2 => exact HC105_3.out); rintro e w14 ⟨rfl, hb⟩; refine ⟨_, rfl, ?_⟩; have n0_ := Aside0.mk (blk_below (g := gb104) (o := .cells #[.int .i64 a0_0, .int .i64 a0_1, .string a0_2, .slice (some ad105) l0_3.length c0_3, .int .i64 a0_4, .int .i64 a0_5] 24 (0, 0)) (by (with_reducible repeat (first | refine blk_drewN ?_ _ | refine blk_drew ?_ | refine blk_alloc ?_ _)); exact BK104.out) hb); have n1_ := Aside0.mk (below_step (by repeat (first | (with_reducible first | exact HB.out | apply below_alloc | apply pw_below_drewN | apply below_drew1 | refine below_set ?_ GE104.out) | exact HB.out)) hb); clear BK104; clear HB; have BK104 := n0_; have HB := n1_; clear n0_ n1_; (try clear hb); (try clear hb2); (try clear hk); (try clear hi)))
              go_roundg k1
              case measure => have := HK1.out; omega
              case rel => exact ⟨(wrap64 (x3_1 + 1)), (by first | rfl | (simp; done) | (simp [*]; done)), H', ⟨by have := HK1.out; omega⟩, ⟨by (with_reducible repeat (first | refine blk_drewN ?_ _ | refine blk_drew ?_ | refine blk_alloc ?_ _)); exact BK104.out⟩, ⟨by repeat (first | (with_reducible first | exact HB.out | apply below_alloc | apply pw_below_drewN | apply below_drew1 | refine below_set ?_ GE104.out) | exact HB.out)⟩⟩
          · rw [if_neg c8] at H
            exact absurd H (by simp)
        · rw [if_neg c7] at H
          have c7b0 : decide (x3_1 < (l0_3.length : Int)) = false := decide_eq_false c7
          clear c7
          obtain rfl := Option.some.inj H
          have hcz15_0 : wr.cell? ⟨gb104, 0, none⟩ = some (.int .i64 a0_0) := (blk_cell BK104.out 0).trans rfl
          have hcz15_1 : wr.cell? ⟨gb104, 1, none⟩ = some (.int .i64 a0_1) := (blk_cell BK104.out 1).trans rfl
          have hcz15_2 : wr.cell? ⟨gb104, 2, none⟩ = some (.string a0_2) := (blk_cell BK104.out 2).trans rfl
          have hcz15_3 : wr.cell? ⟨gb104, 3, none⟩ = some (.slice A0_3 l0_3.length c0_3) := (blk_cell BK104.out 3).trans rfl
          have hcz15_4 : wr.cell? ⟨gb104, 4, none⟩ = some (.int .i64 a0_4) := (blk_cell BK104.out 4).trans rfl
          have hcz15_5 : wr.cell? ⟨gb104, 5, none⟩ = some (.int .i64 a0_5) := (blk_cell BK104.out 5).trans rfl
          have hfz15_0 := blk_frozen BK104.out 0
          have hfz15_1 := blk_frozen BK104.out 1
          have hfz15_2 := blk_frozen BK104.out 2
          have hfz15_3 := blk_frozen BK104.out 3
          have hfz15_4 := blk_frozen BK104.out 4
          have hfz15_5 := blk_frozen BK104.out 5
          go_wp2
          go_ret
          exact ⟨by first | rfl | (simp [errW_none, errW_some] <;> rfl) | (simp [*, errW_none, errW_some] <;> rfl), by repeat (first | (with_reducible first | exact HB.out | apply below_alloc | apply pw_below_drewN | apply below_drew1 | refine below_set ?_ GE104.out) | exact HB.out)⟩

/-! ### notaryref06_Large: function 8 -/
def notaryref06_Large.f (k : Nat) (a0_0 : Int) (a0_1 : Int) (a0_2 : ByteArray) (l0_3 : List (S24)) (a0_4 : Int) (a0_5 : Int) : Option (Bool) := (notaryref06_Count.f k a0_0 a0_1 a0_2 l0_3 a0_4 a0_5 400 70).bind fun t108 => (if t108 < 0 then (some true) else ((notaryref06_Named.f k a0_0 a0_1 a0_2 l0_3 a0_4 a0_5).bind fun t109 => (some t109)))
theorem notaryref06_Large.mono : ∀ a0 a1 a2 a3 a4 a5 k, LeO (notaryref06_Large.f k a0 a1 a2 a3 a4 a5) (notaryref06_Large.f (k + 1) a0 a1 a2 a3 a4 a5) := by
  intro a0 a1 a2 a3 a4 a5 k
  unfold notaryref06_Large.f
  repeat' first
      | (with_reducible exact notaryref06_Count.mono _ _ _ _ _ _ _ _ _)
      | (with_reducible exact notaryref06_Named.mono _ _ _ _ _ _ _)
      | (with_reducible exact LeO.refl _)
      | (with_reducible exact LeO.none _)
      | (with_reducible refine LeO.ite ?_ ?_)
      | (with_reducible refine LeO.bind ?_ (fun _ => ?_))
      | exact notaryref06_Count.mono _ _ _ _ _ _ _ _ _
      | exact notaryref06_Named.mono _ _ _ _ _ _ _
      | exact LeO.none _
      | refine LeO.ite ?_ ?_
      | refine LeO.bind ?_ (fun _ => ?_)
set_option maxHeartbeats 8000000 in
set_option maxRecDepth 100000 in
theorem notaryref06_Large.calls (k : Nat) (a0_0 : Int) (a0_1 : Int) (a0_2 : ByteArray) (A0_3 : Option Addr) (c0_3 : Nat) (l0_3 : List (S24)) (a0_4 : Int) (a0_5 : Int) (r : Bool) (w : World) (hr0_3 : Kd.C k24 w A0_3 l0_3.length l0_3) (hc0_3 : l0_3.length ≤ c0_3) (h : notaryref06_Large.f k a0_0 a0_1 a0_2 l0_3 a0_4 a0_5 = some r) :
    Calls Try.prog 8 #[.agg #[.int .i64 a0_0, .int .i64 a0_1, .string a0_2, .slice A0_3 l0_3.length c0_3, .int .i64 a0_4, .int .i64 a0_5]] w fun e w' => e = .returned (.bool r) ∧ Below w.heap.size w w' := by
  have hu24 := Try.underlying24
  have HR0_3 := Aside0.mk hr0_3
  have HC0_3 := Aside0.mk hc0_3
  clear hr0_3 hc0_3
  have HB := Aside0.mk (Below.refl w.heap.size w)
  have H : ((notaryref06_Count.f k a0_0 a0_1 a0_2 l0_3 a0_4 a0_5 400 70).bind fun t108 => (if t108 < 0 then (some true) else ((notaryref06_Named.f k a0_0 a0_1 a0_2 l0_3 a0_4 a0_5).bind fun t109 => (some t109)))) = some r := h
  clear h
  replace H := Option.bind_eq_some_iff.mp H
  obtain ⟨t108, A20, H⟩ := H
  replace H : (if t108 < 0 then (some true) else ((notaryref06_Named.f k a0_0 a0_1 a0_2 l0_3 a0_4 a0_5).bind fun t109 => (some t109))) = some r := H
  have A2 := Aside0.mk A20
  clear A20
  by_cases c3 : t108 < 0
  · rw [if_pos c3] at H
    have c3b0 : decide (t108 < 0) = true := decide_eq_true c3
    clear c3
    obtain rfl := Option.some.inj H
    go_enter Try.func8, Try.ntmps8
    go_wp2_with (first | ((with_reducible refine gate_dst (N := 1) rfl ?_); refine box_event ?hg (N := 1) ?hd (cs := #[.int .i64 a0_0, .int .i64 a0_1, .string a0_2, .slice A0_3 l0_3.length c0_3, .int .i64 a0_4, .int .i64 a0_5]) (t := 24) ?hr ?_; (case hd => rfl); (case hg => rfl); (case hr => first | (go_simp; done) | (go_simp; rfl) | (go_simp; simp only [IntKind.wrap_u8, IntKind.wrap_u32, (fun x => Int.tmod_eq_emod_of_nonneg (Int.emod_nonneg x (by decide)) : ∀ x : Int, (x % 4294967296).tmod 256 = x % 4294967296 % 256), Int.emod_emod_of_dvd _ (show (256 : Int) ∣ 4294967296 by decide), Int.emod_emod]; done) | (go_simp; simp only [IntKind.wrap_u8, IntKind.wrap_u32, (fun x => Int.tmod_eq_emod_of_nonneg (Int.emod_nonneg x (by decide)) : ∀ x : Int, (x % 4294967296).tmod 256 = x % 4294967296 % 256), Int.emod_emod_of_dvd _ (show (256 : Int) ∣ 4294967296 by decide), Int.emod_emod]; rfl)); intro gb107 hg w4 hbox hb; have n0_ := Aside0.mk (below_step (by repeat (first | (with_reducible first | exact HB.out | apply below_alloc | apply pw_below_drewN | apply below_drew1) | exact HB.out)) hb); have n1_ := Aside0.mk (hbox); have n2_ := Aside0.mk ((by rw [hg]; exact (below_size (by repeat (first | (with_reducible first | exact HB.out | apply below_alloc | apply pw_below_drewN | apply below_drew1) | exact HB.out))) : w.heap.size ≤ gb107)); have n3_ := Aside0.mk ((by rw [hg]; exact (below_size (by repeat (first | (with_reducible first | exact HB.out | apply below_alloc | apply pw_below_drewN | apply below_drew1) | exact HB.out))) : w.heap.size ≤ gb107)); clear HB; have HB := n0_; have BK107 := n1_; have GW107 := n2_; have GE107 := n3_; clear n0_ n1_ n2_ n3_; clear hb hbox hg; have hcz5_0 : w4.cell? ⟨gb107, 0, none⟩ = some (.int .i64 a0_0) := (blk_cell BK107.out 0).trans rfl; have hcz5_1 : w4.cell? ⟨gb107, 1, none⟩ = some (.int .i64 a0_1) := (blk_cell BK107.out 1).trans rfl; have hcz5_2 : w4.cell? ⟨gb107, 2, none⟩ = some (.string a0_2) := (blk_cell BK107.out 2).trans rfl; have hcz5_3 : w4.cell? ⟨gb107, 3, none⟩ = some (.slice A0_3 l0_3.length c0_3) := (blk_cell BK107.out 3).trans rfl; have hcz5_4 : w4.cell? ⟨gb107, 4, none⟩ = some (.int .i64 a0_4) := (blk_cell BK107.out 4).trans rfl; have hcz5_5 : w4.cell? ⟨gb107, 5, none⟩ = some (.int .i64 a0_5) := (blk_cell BK107.out 5).trans rfl; have hfz5_0 := blk_frozen BK107.out 0; have hfz5_1 := blk_frozen BK107.out 1; have hfz5_2 := blk_frozen BK107.out 2; have hfz5_3 := blk_frozen BK107.out 3; have hfz5_4 := blk_frozen BK107.out 4; have hfz5_5 := blk_frozen BK107.out 5) | ((with_reducible refine gate_callee (f := 35) rfl ?_); refine goesL_ (some 4) rfl rfl Try.func35 (by kernel_rfl) rfl #[.agg #[.int .i64 a0_0, .int .i64 a0_1, .string a0_2, .slice A0_3 l0_3.length c0_3, .int .i64 a0_4, .int .i64 a0_5], .int .i64 400, .int .i64 70] rfl (by (try simp only [List.map_toArray, List.map_cons, List.map_nil]); first | done | rfl | (simp only [List.length_drop, List.length_take]; rfl)) ?_; (with_reducible refine (notaryref06_Count.calls k a0_0 a0_1 a0_2 _ _ l0_3 a0_4 a0_5 400 70 t108 _ ?side1 ?side2 A2.out).mono ?_); (case side1 => repeat (first | exact (Kd.C_below HR0_3.out HB.out) | (with_reducible refine Kd.C_alloc ?_ _) | (with_reducible refine Kd.C_drewN ?_ _) | (with_reducible refine Kd.C_drew ?_))); (case side2 => exact HC0_3.out); rintro e w6 ⟨rfl, hb⟩; refine ⟨_, rfl, ?_⟩; have n0_ := Aside0.mk (blk_below (g := gb107) (o := .cells #[.int .i64 a0_0, .int .i64 a0_1, .string a0_2, .slice A0_3 l0_3.length c0_3, .int .i64 a0_4, .int .i64 a0_5] 24 (0, 0)) (by (with_reducible repeat (first | refine blk_drewN ?_ _ | refine blk_drew ?_ | refine blk_alloc ?_ _)); exact BK107.out) hb); have n1_ := Aside0.mk (below_step (by repeat (first | (with_reducible first | exact HB.out | apply below_alloc | apply pw_below_drewN | apply below_drew1 | refine below_set ?_ GE107.out) | exact HB.out)) hb); clear BK107; clear HB; have BK107 := n0_; have HB := n1_; clear n0_ n1_; (try clear hb); (try clear hb2); (try clear hk); (try clear hi)))
    go_ret
    exact ⟨by first | rfl | (simp [errW_none, errW_some] <;> rfl) | (simp [*, errW_none, errW_some] <;> rfl), by repeat (first | (with_reducible first | exact HB.out | apply below_alloc | apply pw_below_drewN | apply below_drew1 | refine below_set ?_ GE107.out) | exact HB.out)⟩
  · rw [if_neg c3] at H
    have c3b0 : decide (t108 < 0) = false := decide_eq_false c3
    clear c3
    replace H := Option.bind_eq_some_iff.mp H
    obtain ⟨t109, A70, H⟩ := H
    replace H : (some t109) = some r := H
    have A7 := Aside0.mk A70
    clear A70
    obtain rfl := Option.some.inj H
    go_enter Try.func8, Try.ntmps8
    go_wp2_with (first | ((with_reducible refine gate_dst (N := 1) rfl ?_); refine box_event ?hg (N := 1) ?hd (cs := #[.int .i64 a0_0, .int .i64 a0_1, .string a0_2, .slice A0_3 l0_3.length c0_3, .int .i64 a0_4, .int .i64 a0_5]) (t := 24) ?hr ?_; (case hd => rfl); (case hg => rfl); (case hr => first | (go_simp; done) | (go_simp; rfl) | (go_simp; simp only [IntKind.wrap_u8, IntKind.wrap_u32, (fun x => Int.tmod_eq_emod_of_nonneg (Int.emod_nonneg x (by decide)) : ∀ x : Int, (x % 4294967296).tmod 256 = x % 4294967296 % 256), Int.emod_emod_of_dvd _ (show (256 : Int) ∣ 4294967296 by decide), Int.emod_emod]; done) | (go_simp; simp only [IntKind.wrap_u8, IntKind.wrap_u32, (fun x => Int.tmod_eq_emod_of_nonneg (Int.emod_nonneg x (by decide)) : ∀ x : Int, (x % 4294967296).tmod 256 = x % 4294967296 % 256), Int.emod_emod_of_dvd _ (show (256 : Int) ∣ 4294967296 by decide), Int.emod_emod]; rfl)); intro gb107 hg w8 hbox hb; have n0_ := Aside0.mk (below_step (by repeat (first | (with_reducible first | exact HB.out | apply below_alloc | apply pw_below_drewN | apply below_drew1) | exact HB.out)) hb); have n1_ := Aside0.mk (hbox); have n2_ := Aside0.mk ((by rw [hg]; exact (below_size (by repeat (first | (with_reducible first | exact HB.out | apply below_alloc | apply pw_below_drewN | apply below_drew1) | exact HB.out))) : w.heap.size ≤ gb107)); have n3_ := Aside0.mk ((by rw [hg]; exact (below_size (by repeat (first | (with_reducible first | exact HB.out | apply below_alloc | apply pw_below_drewN | apply below_drew1) | exact HB.out))) : w.heap.size ≤ gb107)); clear HB; have HB := n0_; have BK107 := n1_; have GW107 := n2_; have GE107 := n3_; clear n0_ n1_ n2_ n3_; clear hb hbox hg; have hcz9_0 : w8.cell? ⟨gb107, 0, none⟩ = some (.int .i64 a0_0) := (blk_cell BK107.out 0).trans rfl; have hcz9_1 : w8.cell? ⟨gb107, 1, none⟩ = some (.int .i64 a0_1) := (blk_cell BK107.out 1).trans rfl; have hcz9_2 : w8.cell? ⟨gb107, 2, none⟩ = some (.string a0_2) := (blk_cell BK107.out 2).trans rfl; have hcz9_3 : w8.cell? ⟨gb107, 3, none⟩ = some (.slice A0_3 l0_3.length c0_3) := (blk_cell BK107.out 3).trans rfl; have hcz9_4 : w8.cell? ⟨gb107, 4, none⟩ = some (.int .i64 a0_4) := (blk_cell BK107.out 4).trans rfl; have hcz9_5 : w8.cell? ⟨gb107, 5, none⟩ = some (.int .i64 a0_5) := (blk_cell BK107.out 5).trans rfl; have hfz9_0 := blk_frozen BK107.out 0; have hfz9_1 := blk_frozen BK107.out 1; have hfz9_2 := blk_frozen BK107.out 2; have hfz9_3 := blk_frozen BK107.out 3; have hfz9_4 := blk_frozen BK107.out 4; have hfz9_5 := blk_frozen BK107.out 5) | ((with_reducible refine gate_callee (f := 35) rfl ?_); refine goesL_ (some 4) rfl rfl Try.func35 (by kernel_rfl) rfl #[.agg #[.int .i64 a0_0, .int .i64 a0_1, .string a0_2, .slice A0_3 l0_3.length c0_3, .int .i64 a0_4, .int .i64 a0_5], .int .i64 400, .int .i64 70] rfl (by (try simp only [List.map_toArray, List.map_cons, List.map_nil]); first | done | rfl | (simp only [List.length_drop, List.length_take]; rfl)) ?_; (with_reducible refine (notaryref06_Count.calls k a0_0 a0_1 a0_2 _ _ l0_3 a0_4 a0_5 400 70 t108 _ ?side1 ?side2 A2.out).mono ?_); (case side1 => repeat (first | exact (Kd.C_below HR0_3.out HB.out) | (with_reducible refine Kd.C_alloc ?_ _) | (with_reducible refine Kd.C_drewN ?_ _) | (with_reducible refine Kd.C_drew ?_))); (case side2 => exact HC0_3.out); rintro e w10 ⟨rfl, hb⟩; refine ⟨_, rfl, ?_⟩; have n0_ := Aside0.mk (blk_below (g := gb107) (o := .cells #[.int .i64 a0_0, .int .i64 a0_1, .string a0_2, .slice A0_3 l0_3.length c0_3, .int .i64 a0_4, .int .i64 a0_5] 24 (0, 0)) (by (with_reducible repeat (first | refine blk_drewN ?_ _ | refine blk_drew ?_ | refine blk_alloc ?_ _)); exact BK107.out) hb); have n1_ := Aside0.mk (below_step (by repeat (first | (with_reducible first | exact HB.out | apply below_alloc | apply pw_below_drewN | apply below_drew1 | refine below_set ?_ GE107.out) | exact HB.out)) hb); clear BK107; clear HB; have BK107 := n0_; have HB := n1_; clear n0_ n1_; (try clear hb); (try clear hb2); (try clear hk); (try clear hi); have hcz11_0 : w10.cell? ⟨gb107, 0, none⟩ = some (.int .i64 a0_0) := (blk_cell BK107.out 0).trans rfl; have hcz11_1 : w10.cell? ⟨gb107, 1, none⟩ = some (.int .i64 a0_1) := (blk_cell BK107.out 1).trans rfl; have hcz11_2 : w10.cell? ⟨gb107, 2, none⟩ = some (.string a0_2) := (blk_cell BK107.out 2).trans rfl; have hcz11_3 : w10.cell? ⟨gb107, 3, none⟩ = some (.slice A0_3 l0_3.length c0_3) := (blk_cell BK107.out 3).trans rfl; have hcz11_4 : w10.cell? ⟨gb107, 4, none⟩ = some (.int .i64 a0_4) := (blk_cell BK107.out 4).trans rfl; have hcz11_5 : w10.cell? ⟨gb107, 5, none⟩ = some (.int .i64 a0_5) := (blk_cell BK107.out 5).trans rfl; have hfz11_0 := blk_frozen BK107.out 0; have hfz11_1 := blk_frozen BK107.out 1; have hfz11_2 := blk_frozen BK107.out 2; have hfz11_3 := blk_frozen BK107.out 3; have hfz11_4 := blk_frozen BK107.out 4; have hfz11_5 := blk_frozen BK107.out 5) | (go_at_call 36; (with_reducible refine (notaryref06_Named.calls k a0_0 a0_1 a0_2 _ _ l0_3 a0_4 a0_5 t109 _ ?side1 ?side2 A7.out).mono ?_); (case side1 => repeat (first | exact (Kd.C_below HR0_3.out HB.out) | (with_reducible refine Kd.C_alloc ?_ _) | (with_reducible refine Kd.C_drewN ?_ _) | (with_reducible refine Kd.C_drew ?_))); (case side2 => exact HC0_3.out); rintro e w12 ⟨rfl, hb⟩; have n0_ := Aside0.mk (blk_below (g := gb107) (o := .cells #[.int .i64 a0_0, .int .i64 a0_1, .string a0_2, .slice A0_3 l0_3.length c0_3, .int .i64 a0_4, .int .i64 a0_5] 24 (0, 0)) (by (with_reducible repeat (first | refine blk_drewN ?_ _ | refine blk_drew ?_ | refine blk_alloc ?_ _)); exact BK107.out) hb); have n1_ := Aside0.mk (below_step (by repeat (first | (with_reducible first | exact HB.out | apply below_alloc | apply pw_below_drewN | apply below_drew1 | refine below_set ?_ GE107.out) | exact HB.out)) hb); clear BK107; clear HB; have BK107 := n0_; have HB := n1_; clear n0_ n1_; (try clear hb); (try clear hb2); (try clear hk); (try clear hi)))
    go_ret
    exact ⟨by first | rfl | (simp [errW_none, errW_some] <;> rfl) | (simp [*, errW_none, errW_some] <;> rfl), by repeat (first | (with_reducible first | exact HB.out | apply below_alloc | apply pw_below_drewN | apply below_drew1 | refine below_set ?_ GE107.out) | exact HB.out)⟩

/-! ### term_walk: function 37 (given) -/
/-- along a list, with each element's place -/
def term_walk.all {α : Type} (g : Int → S24 → α → Option α) : List S24 → Int → α → Option α
  | [], _, s => some s
  | x :: xs, i, s => (g i x s).bind fun s' => term_walk.all g xs (i + 1) s'
/-- a term and all that is in it: 'see' tells what becomes of a state at a path -/
def term_walk.f {α : Type} (see : α → List Int → Option α) : Nat → S24 → List Int → α → Option α
  | 0, _, _, _ => none
  | k + 1, t, p, s => if p.length < 10000000000000 then (see s p).bind fun s1 => term_walk.all (fun i x s' => term_walk.f see k x (p ++ [i]) s') t.f3 0 s1 else none
theorem term_walk.all_mono {α : Type} {g h : Int → S24 → α → Option α} (hg : ∀ i x s, LeO (g i x s) (h i x s)) : ∀ xs i s, LeO (term_walk.all g xs i s) (term_walk.all h xs i s)
  | [], _, _ => LeO.refl _
  | x :: xs, i, s => LeO.bind (hg i x s) fun s' => term_walk.all_mono hg xs (i + 1) s'
theorem term_walk.mono {α : Type} (see : α → List Int → Option α) : ∀ k t p s, LeO (term_walk.f see k t p s) (term_walk.f see (k + 1) t p s)
  | 0, _, _, _ => fun r h => by simp [term_walk.f] at h
  | k + 1, t, p, s => by
    rw [term_walk.f, term_walk.f]
    exact LeO.ite (LeO.bind (LeO.refl _) fun s1 => term_walk.all_mono (fun i x s' => term_walk.mono see k x _ s') _ _ _) (LeO.refl _)
/-- what is only read, and lies in no block of O -/
abbrev term_walk.Off (W : World) (B : Nat) (O : Nat → Prop) (A : Option Addr) (l : List Int) : Prop := Kd.F (Kd.int .i64) W (fun q => B ≤ q ∧ ¬ O q) A l.length l
theorem term_walk.off_move {W W' : World} {B : Nat} {O O' : Nat → Prop} {A : Option Addr} {l : List Int} (h : term_walk.Off W B O A l) (hk : Kept W W' O) (ho : ∀ q, q < W.heap.size → O' q → O q) : term_walk.Off W' B O' A l := by
  have h1 := Kd.F_step (Kd.F_bound h) (fun q hq hlt => hk.2 q hlt hq.1.2)
  exact Kd.F_mono h1 (fun q hq => ⟨hq.1.1, fun hq' => hq.1.2 (ho q hq.2 hq')⟩)
def term_walk.Post {α : Type} (B : Nat) (I : World → α → (Nat → Prop) → Prop) (w : World) (O : Nat → Prop) (r : α) (e : Ending) (w' : World) : Prop :=
  ∃ O', e = .returned (.tuple #[]) ∧ I w' r O' ∧ Kept w w' O ∧ Below B w w' ∧ ∀ q, q < w.heap.size → O' q → O q
theorem term_walk.row {W' : World} {base : Nat} {v : Value} {l : List Int} (h : W'.ownsRow base 3 1 v l.length (nums .i64 l)) : Kd.R (Kd.int .i64) 3 W' base (fun _ => True) v l := by
  refine ⟨fun _ _ => trivial, nums .i64 l, h, (nums_length _ _).trans (Nat.mul_one _).symm, fun j p hj => ?_⟩
  show ((nums .i64 l).drop (j * 1)).take 1 = [.int .i64 p]
  rw [Nat.mul_one, List.take_one, List.head?_drop]
  simp [nums, hj]
theorem term_walk.olds {W : World} {A : Option Addr} {l : List Int} (h : Kd.C (Kd.int .i64) W A l.length l) : ∀ b, A = some b → ∀ j u, (nums .i64 l)[j]? = some u → W.cell? (b.add j) = some u := by
  intro b hb j u hj
  simp only [nums, List.getElem?_map, Option.map_eq_some_iff] at hj
  obtain ⟨q, hq, rfl⟩ := hj
  have hlt : 0 < l.length := Nat.lt_of_le_of_lt (Nat.zero_le _) (List.getElem?_eq_some_iff.mp hq).1
  obtain ⟨ad, e, h2⟩ := h.2.2 hlt
  obtain rfl : ad = b := Option.some.inj (e.symm.trans hb)
  obtain ⟨c, _, hK, hc⟩ := h2 j q hq
  have hc' : c = [.int .i64 q] := hK
  subst hc'
  have h3 : W.cell? (ad.add (j * 1 + 0)) = some (.int .i64 q) := hc 0 _ rfl
  simpa using h3
set_option maxHeartbeats 16000000 in
set_option maxRecDepth 100000 in
theorem term_walk.calls {α : Type} (see : α → List Int → Option α) (G : Nat) (caps : Array Value) (B : Nat) (I : World → α → (Nat → Prop) → Prop)
    (hI : ∀ W W' s O, I W s O → Below W.heap.size W W' → I W' s O) (hO : ∀ W s O, I W s O → ∀ q, O q → B ≤ q ∧ q < W.heap.size)
    (hE : ∀ (p t : Value) (W : World), (callFunc G (caps ++ #[p, t])).run Try.prog W = .ok (.enter G (caps ++ #[p, t])) W)
    (hF : ∀ s r W O Ap cp p (x : S24) Ax cx, I W s O → p.length ≤ cp → B ≤ W.heap.size → term_walk.Off W B O Ap p → see s p = some r →
      Calls Try.prog G (caps ++ #[.slice Ap p.length cp, .agg #[.int .i64 x.f0, .int .i64 x.f1, .string x.f2, .slice Ax x.f3.length cx, .int .i64 x.f4, .int .i64 x.f5]]) W (term_walk.Post B I W O r))
    (k : Nat) : ∀ (x : S24) (A : Option Addr) (c : Nat) (p : List Int) (Ap : Option Addr) (cp : Nat) (s : α) (O : Nat → Prop) (r : α) (w : World), Kd.F k24 w (fun q => q < B) A x.f3.length x.f3 → x.f3.length ≤ c → p.length ≤ cp → B ≤ w.heap.size → term_walk.Off w B O Ap p → I w s O → term_walk.f see k x p s = some r →
    Calls Try.prog 37 #[.agg #[.int .i64 x.f0, .int .i64 x.f1, .string x.f2, .slice A x.f3.length c, .int .i64 x.f4, .int .i64 x.f5], .slice Ap p.length cp, .func (.func G) caps #[]] w (term_walk.Post B I w O r) := by
  have HI := Aside0.mk hI
  have HO := Aside0.mk hO
  have HF := Aside0.mk hF
  clear hI hO hF
  induction k with
  | zero => intro x A c p Ap cp s O r w _ _ _ _ _ _ h; exact absurd h (by simp [term_walk.f])
  | succ k ih =>
  intro x A c p Ap cp s O r w hA hc hcp hB hp h0 h
  have hu := Try.underlying24
  rw [term_walk.f] at h
  by_cases hl : p.length < 10000000000000
  case neg => rw [if_neg hl] at h; exact absurd h (by simp)
  rw [if_pos hl] at h
  obtain ⟨s1, hs1, h⟩ := Option.bind_eq_some_iff.mp h
  have HIH := Aside0.mk ih
  have HR0 := Aside0.mk hA
  have HC0 := Aside0.mk hc
  have HCP := Aside0.mk hcp
  have HPL := Aside0.mk hl
  have HBw := Aside0.mk hB
  have HP := Aside0.mk hp
  have H0 := Aside0.mk h0
  have HS1 := Aside0.mk hs1
  have H := Aside0.mk h
  clear ih hA hc hcp hl hB hp h0 hs1 h
  go_enter Try.func37, Try.ntmps37
  go_wp2_with ((with_reducible refine (HF.out s s1 _ O Ap cp p x A c (HI.out _ _ _ _ H0.out (by repeat (first | exact Below.refl _ _ | apply below_alloc | apply below_drew))) HCP.out (by have := HBw.out; simp; omega) (Kd.F_alloc HP.out _) HS1.out).mono ?_); rintro e w1 ⟨O1, rfl, hi1, hk1, hb1, ho1⟩; (have HI1 := Aside0.mk hi1); (have HK1 := Aside0.mk hk1); (have HB1 := Aside0.mk hb1); (have HO1 := Aside0.mk ho1); (have hx : w1.heap[w.heap.size]? = some (.cells #[.int .i64 x.f0, .int .i64 x.f1, .string x.f2, .slice A x.f3.length c, .int .i64 x.f4, .int .i64 x.f5] 24 (0, 0)) := (hk1.2 _ (by simp) (fun ho => by have := (HO.out _ _ _ H0.out _ ho).2; omega)).trans (blk_new _ _)); (have x3 : w1.cell? ⟨w.heap.size, 3, none⟩ = some (.slice A x.f3.length c) := (blk_cell hx 3).trans rfl); (have HX := Aside0.mk hx); clear hi1 hk1 hb1 ho1 hx)
  clear h
  have hszw : (w.alloc (.cells #[.int .i64 x.f0, .int .i64 x.f1, .string x.f2, .slice A x.f3.length c, .int .i64 x.f4, .int .i64 x.f5] 24)).heap.size = w.heap.size + 1 := by simp
  have HSZ := Aside0.mk hszw
  clear hszw
  have HK2 : Aside0 (Kept w w1 O) := ⟨((Kept.refl w O).below (below_alloc (Below.refl _ _) _)).then_ HK1.out (fun k hk => .inl hk)⟩
  have HB2 : Aside0 (Below B w w1) := ⟨(Below.mono (below_alloc (Below.refl _ _) _) HBw.out).trans HB1.out⟩
  have HO2 : Aside0 (∀ q, q < w.heap.size → O1 q → O q) := ⟨fun q hq ho => HO1.out q (by rw [HSZ.out]; omega) ho⟩
  have HOX : Aside0 (¬ O1 w.heap.size) := ⟨fun ho => by have := (HO.out _ _ _ H0.out _ (HO1.out _ (by rw [HSZ.out]; omega) ho)).2; omega⟩
  go_loopg [15] x.f3.length (fun q v15 w' => ∃ (j : Nat) (s' : α) (O' : Nat → Prop), v15 = .int .i64 (j : Int) ∧ j + q = x.f3.length ∧ Aside0 (term_walk.all (fun i x s' => term_walk.f see k x (p ++ [i]) s') (x.f3.drop j) (j : Int) s' = some r) ∧ Aside0 (I w' s' O') ∧ Aside0 (Kept w w' O) ∧ Aside0 (Below B w w') ∧ Aside0 (∀ q, q < w.heap.size → O' q → O q) ∧ Aside0 (¬ O' w.heap.size) ∧ Aside0 (w'.heap[w.heap.size]? = some (.cells #[.int .i64 x.f0, .int .i64 x.f1, .string x.f2, .slice A x.f3.length c, .int .i64 x.f4, .int .i64 x.f5] 24 (0, 0))))
  case atStart => exact ⟨0, s1, O1, rfl, by omega, H, HI1, HK2, HB2, HO2, HOX, HX⟩
  case round =>
    clear H HI1 HK1 HB1 HO1 HX HOX HK2 HB2 HO2 HS1 x3
    obtain ⟨j, s', O', rfl, hjq, H, HI1, HK, HBB, HO2, HOX, HX⟩ := hrel
    have HL : Aside0 (Kd.F k24 wr (fun q => q < B) A x.f3.length x.f3) := ⟨Kd.F_kept HR0.out HK.out (fun q hq ho => by have := (HO.out _ _ _ H0.out q ho).1; omega)⟩
    have HPr : Aside0 (term_walk.Off wr B O' Ap p) := ⟨term_walk.off_move HP.out HK.out HO2.out⟩
    have HBr : Aside0 (B ≤ wr.heap.size) := ⟨Nat.le_trans HBw.out HK.out.1⟩
    cases gk with
    | zero =>
      obtain rfl : j = x.f3.length := by omega
      have hd : decide ((x.f3.length : Int) < (x.f3.length : Int)) = false := by simp
      have h1 := H.out
      rw [List.drop_length] at h1
      obtain rfl : s' = r := Option.some.inj h1
      clear h1 H
      go_wp2
      go_end0
      exact ⟨O', rfl, HI1.out, HK.out, HBB.out, HO2.out⟩
    | succ q =>
      have hjn : j < x.f3.length := by omega
      have hd : decide ((j : Int) < (x.f3.length : Int)) = true := decide_eq_true (by omega)
      have p0 : 0 ≤ (j : Int) := by omega
      have p1 : (j : Int) < (x.f3.length : Int) := by omega
      have h1 := H.out
      rw [List.drop_eq_getElem_cons hjn, term_walk.all] at h1
      obtain ⟨s2, hs2, h2⟩ := Option.bind_eq_some_iff.mp h1
      have hmax := Kd.F_max HL.out
      obtain ⟨ad, cs, e0, hcl, hFK, hcc, hin⟩ := Kd.F_get HL.out z24 (j : Int) p0 p1
      have hX : x.f3.getD ((j : Int)).toNat z24 = x.f3[j] := by simp [List.getD_eq_getElem?_getD, List.getElem?_eq_getElem hjn]
      rw [hX] at hFK
      clear hX
      generalize x.f3[j] = X at *
      obtain ⟨A3, c3, rfl, hc3, hF3⟩ := k24_openF hFK
      have m0 : wr.cell? (ad.add (j * 6)) = some (.int .i64 X.f0) := hcc 0 _ rfl
      have m1 : wr.cell? ⟨(ad.add (j * 6)).block, (ad.add (j * 6)).off + 1, none⟩ = some (.int .i64 X.f1) := by rw [← add_field _ _ 1 (by omega)]; exact hcc 1 _ rfl
      have m2 : wr.cell? ⟨(ad.add (j * 6)).block, (ad.add (j * 6)).off + 2, none⟩ = some (.string X.f2) := by rw [← add_field _ _ 2 (by omega)]; exact hcc 2 _ rfl
      have m3 : wr.cell? ⟨(ad.add (j * 6)).block, (ad.add (j * 6)).off + 3, none⟩ = some (.slice A3 X.f3.length c3) := by rw [← add_field _ _ 3 (by omega)]; exact hcc 3 _ rfl
      have m4 : wr.cell? ⟨(ad.add (j * 6)).block, (ad.add (j * 6)).off + 4, none⟩ = some (.int .i64 X.f4) := by rw [← add_field _ _ 4 (by omega)]; exact hcc 4 _ rfl
      have m5 : wr.cell? ⟨(ad.add (j * 6)).block, (ad.add (j * 6)).off + 5, none⟩ = some (.int .i64 X.f5) := by rw [← add_field _ _ 5 (by omega)]; exact hcc 5 _ rfl
      have HS2 := Aside0.mk hs2
      have H2 := Aside0.mk h2
      have HC3 := Aside0.mk hc3
      have HF3 := Aside0.mk hF3
      have HMX := Aside0.mk hmax
      subst e0
      clear h1 hs2 h2 hcc hcl hFK hin hc3 hF3 hmax H
      have hw : IntKind.i64.wrap ((j : Int) + 1) = ((j + 1 : Nat) : Int) := by
        have := HMX.out
        rw [i64_w]
        unfold Go.RowKit.wrap64
        omega
      go_upto_region 5 with (fail)
      obtain ⟨W, hW⟩ : ∃ W : World, W = wr.alloc (.cells #[.int .i64 X.f0, .int .i64 X.f1, .string X.f2, .slice A3 X.f3.length c3, .int .i64 X.f4, .int .i64 X.f5] 24) := ⟨_, rfl⟩
      have hbk : W.heap[wr.heap.size]? = some (.cells #[.int .i64 X.f0, .int .i64 X.f1, .string X.f2, .slice A3 X.f3.length c3, .int .i64 X.f4, .int .i64 X.f5] 24 (0, 0)) := by rw [hW]; exact blk_new _ _
      have hWB : Below wr.heap.size wr W := by rw [hW]; exact below_alloc (Below.refl _ _) _
      have hWS : W.heap.size = wr.heap.size + 1 := by rw [hW]; simp
      rw [← hW]
      have y0 : W.cell? ⟨wr.heap.size, 0, none⟩ = some (.int .i64 X.f0) := (blk_cell hbk 0).trans rfl
      have y1 : W.cell? ⟨wr.heap.size, 1, none⟩ = some (.int .i64 X.f1) := (blk_cell hbk 1).trans rfl
      have y2 : W.cell? ⟨wr.heap.size, 2, none⟩ = some (.string X.f2) := (blk_cell hbk 2).trans rfl
      have y3 : W.cell? ⟨wr.heap.size, 3, none⟩ = some (.slice A3 X.f3.length c3) := (blk_cell hbk 3).trans rfl
      have y4 : W.cell? ⟨wr.heap.size, 4, none⟩ = some (.int .i64 X.f4) := (blk_cell hbk 4).trans rfl
      have y5 : W.cell? ⟨wr.heap.size, 5, none⟩ = some (.int .i64 X.f5) := (blk_cell hbk 5).trans rfl
      have HWB := Aside0.mk hWB
      have HWS := Aside0.mk hWS
      have HBK := Aside0.mk hbk
      clear hW hWB hWS hbk m0 m1 m2 m3 m4 m5
      have hcz : (0 : Int) ≤ (p.length : Int) := by omega
      have hcp' : (p.length : Int) ≤ (cp : Int) := by have := HCP.out; omega
      have HLT : Aside0 (w.heap.size < wr.heap.size) := ⟨(Array.getElem?_eq_some_iff.mp HX.out).1⟩
      have hnone : Ap = none → p.length = 0 ∧ p.length = 0 := by
        intro e
        rcases Nat.eq_zero_or_pos p.length with h | h
        · exact ⟨h, h⟩
        · obtain ⟨ad, e2, _⟩ := (Kd.F_now HPr.out).2.2 h
          rw [e] at e2
          cases e2
      have HNN := Aside0.mk hnone
      clear hnone
      obtain ⟨pj, hpj⟩ : ∃ pj : List Int, pj = p ++ [(j : Int)] := ⟨_, rfl⟩
      have HPJ := Aside0.mk hpj
      have HS3 : Aside0 (term_walk.f see k X pj s' = some s2) := ⟨by rw [hpj]; exact HS2.out⟩
      clear hpj HS2
      obtain ⟨ii, hi1, hi2⟩ := Option.map_eq_some_iff.mp info3
      have HI3 : Aside0 (Try.prog.info? 3 = some ii ∧ ii.zero = some (.int .i64 0) ∧ ii.size = 1 ∧ ii.bytes = 8) := ⟨hi1, congrArg (·.1) hi2, congrArg (·.2.1) hi2, congrArg (·.2.2) hi2⟩
      clear hi1 hi2
      go_region_held3 (fun w' => w'.cell? ⟨wr.heap.size, 0, none⟩ = some (.int .i64 X.f0) ∧ w'.cell? ⟨wr.heap.size, 1, none⟩ = some (.int .i64 X.f1) ∧ w'.cell? ⟨wr.heap.size, 2, none⟩ = some (.string X.f2) ∧ w'.cell? ⟨wr.heap.size, 3, none⟩ = some (.slice A3 X.f3.length c3) ∧ w'.cell? ⟨wr.heap.size, 4, none⟩ = some (.int .i64 X.f4) ∧ w'.cell? ⟨wr.heap.size, 5, none⟩ = some (.int .i64 X.f5)) (first | exact ⟨x0, x1, x2, x3, x4, x5⟩ | exact ⟨z0, z1, z2, z3, z4, z5⟩ | go_keep) (first | (refine step_append_grows rfl (.tmp 26) (.tmp 28) 33 rfl 3 ii (.int .i64 0) 1 8 Try.underlying33 HI3.out.1 HI3.out.2.1 HI3.out.2.2.1 HI3.out.2.2.2 rfl (by decide) Ap p.length p.length (nums .i64 p) (by go_simp) HNN.out ((nums_length _ _).trans (Nat.mul_one _).symm) (term_walk.olds (Kd.C_below (Kd.F_now HPr.out) (by repeat (first | exact HWB.out | apply below_alloc | apply below_drew)))) ⟨W.heap.size, 0, none⟩ 1 1 [.int .i64 (j : Int)] (by go_simp) rfl (by intro i u hi; cases i with | zero => (have e := Option.some.inj hi; subst e; go_simp) | succ i => simp at hi) (by intro u hu; simp at hu; subst hu; rfl) (by omega) (by have := HPL.out; simp only [maxLen]; omega) (by have := HPL.out; omega) ?_; intro v9 w9 hown hgrow; (have hq2 : Below W.heap.size W w9 := Below.grown (by repeat (first | exact Below.refl _ _ | apply below_alloc | apply below_drew)) hgrow (by simp) (fun q hq => by cases hq)); (have hq : Below wr.heap.size wr w9 := below_step HWB.out hq2); (have x0 := pw_cell_below hq2 y0); (have x1 := pw_cell_below hq2 y1); (have x2 := pw_cell_below hq2 y2); (have x3 := pw_cell_below hq2 y3); (have x4 := pw_cell_below hq2 y4); (have x5 := pw_cell_below hq2 y5); (have hown2 : w9.ownsRow wr.heap.size 3 1 v9 pj.length (nums .i64 pj) := by rw [HPJ.out]; have h5 := own_weaken hown (base' := wr.heap.size) (by have := HWS.out; simp; omega); simpa [nums] using h5); (have HRW := Aside0.mk (term_walk.row hown2)); (obtain ⟨A9, c9, rfl⟩ := Kd.R_slice HRW.out); (have HQ := Aside0.mk hq); (have HX9 := Aside0.mk (blk_below HBK.out hq2)); clear hown hown2 hgrow hq hq2) | (go_at_call 37; (with_reducible refine (HIH.out X A3 c3 pj A9 c9 s' O' s2 _ (Kd.F_below HF3.out (by repeat (first | exact HQ.out | apply below_alloc | apply below_drew))) HC3.out (Kd.R_reads' HRW.out).2.1 (Nat.le_trans HBr.out (Below.size (by repeat (first | exact HQ.out | apply below_alloc | apply below_drew)))) (Kd.F_mono (Kd.R_F (Kd.R_bound (Kd.R_below HRW.out (by repeat (first | exact Below.refl _ _ | apply below_alloc | apply below_drew))))) (fun q hq => ⟨Nat.le_trans HBr.out hq.2.1, fun ho => by have := (HO.out _ _ _ HI1.out q ho).2; have := hq.2.1; omega⟩)) (HI.out _ _ _ _ HI1.out (by repeat (first | exact HQ.out | apply below_alloc | apply below_drew))) HS3.out).mono ?_); rintro e w2 ⟨O2, rfl, hi2, hk2, hb2, ho2⟩; (have HQW : Aside0 (Below wr.heap.size wr w9) := HQ); (have hz := (hk2.2 wr.heap.size (Array.getElem?_eq_some_iff.mp HX9.out).1 (fun ho => by have := (HO.out _ _ _ HI1.out _ ho).2; omega)).trans HX9.out); (have z0 : w2.cell? ⟨wr.heap.size, 0, none⟩ = some (.int .i64 X.f0) := (blk_cell hz 0).trans rfl); (have z1 : w2.cell? ⟨wr.heap.size, 1, none⟩ = some (.int .i64 X.f1) := (blk_cell hz 1).trans rfl); (have z2 : w2.cell? ⟨wr.heap.size, 2, none⟩ = some (.string X.f2) := (blk_cell hz 2).trans rfl); (have z3 : w2.cell? ⟨wr.heap.size, 3, none⟩ = some (.slice A3 X.f3.length c3) := (blk_cell hz 3).trans rfl); (have z4 : w2.cell? ⟨wr.heap.size, 4, none⟩ = some (.int .i64 X.f4) := (blk_cell hz 4).trans rfl); (have z5 : w2.cell? ⟨wr.heap.size, 5, none⟩ = some (.int .i64 X.f5) := (blk_cell hz 5).trans rfl); (have HI2 := Aside0.mk hi2); (have HK2 := Aside0.mk hk2); (have HB2 := Aside0.mk hb2); (have HO22 := Aside0.mk ho2); clear hz hi2 hk2 hb2 ho2))
      rename_i hHeld
      clear hHeld x0 x1 x2 x3 x4 x5 y0 y1 y2 y3 y4 y5 z0 z1 z2 z3 z4 z5 hcz hcp'
      have HKK : Aside0 (Kept w w2 O) := ⟨((HK.out).below HQ.out).then_ HK2.out (fun k hk => (Nat.lt_or_ge k w.heap.size).imp (fun hlt => HO2.out k hlt hk) id)⟩
      have HBB2 : Aside0 (Below B w w2) := ⟨(HBB.out.trans (HQ.out.mono HBr.out)).trans HB2.out⟩
      have HO3 : Aside0 (∀ q, q < w.heap.size → O2 q → O q) := ⟨fun k hlt hk => HO2.out k hlt (HO22.out k (by have := HQ.out.size; have := HLT.out; omega) hk)⟩
      have HOX2 : Aside0 (¬ O2 w.heap.size) := ⟨fun ho => HOX.out (HO22.out _ (by have := HQ.out.size; have := HLT.out; omega) ho)⟩
      have HX2 : Aside0 (w2.heap[w.heap.size]? = some (.cells #[.int .i64 x.f0, .int .i64 x.f1, .string x.f2, .slice (some ad) x.f3.length c, .int .i64 x.f4, .int .i64 x.f5] 24 (0, 0))) := ⟨(HK2.out.2 _ (by have := HQ.out.size; have := HLT.out; omega) HOX.out).trans (blk_below HX.out HQ.out)⟩
      go_wp2
      go_roundg q
      case rel => exact ⟨j + 1, s2, O2, rfl, by omega, H2, HI2, HKK, HBB2, HO3, HOX2, HX2⟩
      case measure => omega
/-- a count and a depth, at one more path -/
def term_meter.see (s : Int × Int) (p : List Int) : Option (Int × Int) := some (wrap64 (s.1 + 1), max s.2 (wrap64 ((p.length : Int) + 1)))
/-- the meter's own block -/
def term_meter.I (B g : Nat) (W : World) (s : Int × Int) (O : Nat → Prop) : Prop := W.heap[g]? = some (.cells #[.int .i64 s.1, .int .i64 s.2] 66 (0, 0)) ∧ B ≤ g ∧ ∀ q, O q ↔ q = g
theorem term_meter.calls (B g : Nat) (s r : Int × Int) (W : World) (O : Nat → Prop) (Ap : Option Addr) (cp : Nat) (p : List Int) (x : S24) (Ax : Option Addr) (cx : Nat) (h0 : term_meter.I B g W s O) (hc : p.length ≤ cp) (hB : B ≤ W.heap.size) (hp : term_walk.Off W B O Ap p) (h : term_meter.see s p = some r) :
    Calls Try.prog 39 (#[.pointer (some ⟨g, 0, none⟩)] ++ #[.slice Ap p.length cp, .agg #[.int .i64 x.f0, .int .i64 x.f1, .string x.f2, .slice Ax x.f3.length cx, .int .i64 x.f4, .int .i64 x.f5]]) W (term_walk.Post B (term_meter.I B g) W O r) := by
  have hu := Try.underlying24
  obtain rfl := Option.some.inj h
  obtain ⟨hg, hBg, hO⟩ := h0
  have hgl := (Array.getElem?_eq_some_iff.mp hg).1
  have s0 : W.cell? ⟨g, 0, none⟩ = some (.int .i64 s.1) := (blk_cell hg 0).trans rfl
  have s1 : W.cell? ⟨g, 1, none⟩ = some (.int .i64 s.2) := (blk_cell hg 1).trans rfl
  have f0 := blk_frozen hg 0
  have f1 := blk_frozen hg 1
  have fin : ∀ m, max s.2 (wrap64 ((p.length : Int) + 1)) = m → term_walk.Post B (term_meter.I B g) W O (wrap64 (s.1 + 1), max s.2 (wrap64 ((p.length : Int) + 1))) (.returned (.tuple #[])) (((W.setCell ⟨g, 0, none⟩ (.int .i64 (wrap64 (s.1 + 1)))).setCell ⟨g, 1, none⟩ (.int .i64 m)).alloc (.cells #[.int .i64 x.f0, .int .i64 x.f1, .string x.f2, .slice Ax x.f3.length cx, .int .i64 x.f4, .int .i64 x.f5] 24)) := by
    rintro m rfl
    refine ⟨O, rfl, ⟨blk_alloc (blk_put (blk_put hg 0 _ rfl) 1 _ rfl) _, hBg, hO⟩, ?_, ?_, fun _ _ h => h⟩
    · exact (((Kept.refl W O).setCell (p := ⟨g, 0, none⟩) (.inl ((hO g).2 rfl)) _).setCell (p := ⟨g, 1, none⟩) (.inl ((hO g).2 rfl)) _).alloc _
    · exact (((Below.refl B W).setCell (p := ⟨g, 0, none⟩) hBg _).setCell (p := ⟨g, 1, none⟩) hBg _).trans (Below.mono (below_alloc (Below.refl _ _) _) (by simpa using hB))
  have FIN := Aside0.mk fin
  clear fin h
  go_enter Try.func39, Try.ntmps39
  go_wp2
  · go_end0
    exact FIN.out _ (by omega)
  · go_end0
    exact FIN.out _ (by omega)
theorem term_Size.heap : Kd.Heap k24 := Kd.heap_fix (fun d hd => Kd.heap_iso _ (Kd.heap_pair (Kd.heap_int _) (Kd.heap_pair (Kd.heap_int _) (Kd.heap_pair Kd.heap_string (Kd.heap_pair (Kd.heap_slice _ hd) (Kd.heap_pair (Kd.heap_int _) (Kd.heap_int _)))))))
theorem term_meter.goes (z p t : Value) (w : World) : (callFunc 39 (#[z] ++ #[p, t])).run Try.prog w = .ok (.enter 39 (#[z] ++ #[p, t])) w := by go_simp
/-- a walk that measures, from a fresh meter on -/
theorem term_meter.walks (k : Nat) (x : S24) (A : Option Addr) (c : Nat) (B g : Nat) (s r : Int × Int) (W : World) (hA : Kd.F k24 W (fun q => q < B) A x.f3.length x.f3) (hc : x.f3.length ≤ c) (hB : B ≤ g) (hg : W.heap[g]? = some (.cells #[.int .i64 s.1, .int .i64 s.2] 66 (0, 0))) (h : term_walk.f term_meter.see k x [] s = some r) :
    Calls Try.prog 37 #[.agg #[.int .i64 x.f0, .int .i64 x.f1, .string x.f2, .slice A x.f3.length c, .int .i64 x.f4, .int .i64 x.f5], .slice none 0 0, .func (.func 39) #[.pointer (some ⟨g, 0, none⟩)] #[]] W fun e w' => e = .returned (.tuple #[]) ∧ w'.heap[g]? = some (.cells #[.int .i64 r.1, .int .i64 r.2] 66 (0, 0)) ∧ Below B W w' := by
  have h1 := term_walk.calls term_meter.see 39 #[.pointer (some ⟨g, 0, none⟩)] B (term_meter.I B g) (fun W W' s O h hb => ⟨blk_below h.1 hb, h.2.1, h.2.2⟩) (fun W s O h q hq => by obtain rfl := (h.2.2 q).1 hq; exact ⟨h.2.1, blk_lt h.1⟩) (fun p t W => term_meter.goes _ p t W) (fun s r W O Ap cp p x Ax cx h0 hc hB hp h => term_meter.calls B g s r W O Ap cp p x Ax cx h0 hc hB hp h) k x A c [] none 0 s (fun q => q = g) r W hA hc (Nat.le_refl _) (Nat.le_trans hB (Nat.le_of_lt (blk_lt hg))) (Kd.F_nil _ _ _) ⟨hg, hB, fun q => Iff.rfl⟩ h
  refine h1.mono ?_
  rintro e w' ⟨O', rfl, hi, hk, hb, ho⟩
  exact ⟨rfl, hi.1, hb⟩

/-! ### term_Size: function 12 (given) -/
def term_Size.f (k : Nat) (a0 a1 : Int) (a2 : ByteArray) (a3 : List S24) (a4 a5 : Int) : Option Int := (term_walk.f term_meter.see k ⟨a0, a1, a2, a3, a4, a5⟩ [] (0, 0)).bind fun s => some s.1
theorem term_Size.mono : ∀ a0 a1 a2 a3 a4 a5 k, LeO (term_Size.f k a0 a1 a2 a3 a4 a5) (term_Size.f (k + 1) a0 a1 a2 a3 a4 a5) := fun a0 a1 a2 a3 a4 a5 k => LeO.bind (term_walk.mono _ _ _ _ _) fun _ => LeO.refl _
set_option maxHeartbeats 16000000 in
set_option maxRecDepth 100000 in
theorem term_Size.calls (k : Nat) (a0_0 : Int) (a0_1 : Int) (a0_2 : ByteArray) (A0_3 : Option Addr) (c0_3 : Nat) (l0_3 : List (S24)) (a0_4 : Int) (a0_5 : Int) (r : Int) (w : World) (hr0_3 : Kd.C k24 w A0_3 l0_3.length l0_3) (hc0_3 : l0_3.length ≤ c0_3) (h : term_Size.f k a0_0 a0_1 a0_2 l0_3 a0_4 a0_5 = some r) :
    Calls Try.prog 12 #[.agg #[.int .i64 a0_0, .int .i64 a0_1, .string a0_2, .slice A0_3 l0_3.length c0_3, .int .i64 a0_4, .int .i64 a0_5]] w fun e w' => e = .returned (.int .i64 r) ∧ Below w.heap.size w w' := by
  have hu := Try.underlying24
  obtain ⟨s, hs, h⟩ := Option.bind_eq_some_iff.mp h
  obtain rfl := Option.some.inj h
  have HR := Aside0.mk hr0_3
  have HS := Aside0.mk hs
  clear hr0_3 hs h
  have HF : Aside0 (Kd.F k24 w (fun q => q < w.heap.size) A0_3 l0_3.length l0_3) := ⟨Kd.C_F term_Size.heap HR.out⟩
  have HG : Aside0 (((w.alloc (.cells #[.int .i64 a0_0, .int .i64 a0_1, .string a0_2, .slice A0_3 l0_3.length c0_3, .int .i64 a0_4, .int .i64 a0_5] 24)).alloc (.cells #[.int .i64 0, .int .i64 0] 66)).heap[w.heap.size + 1]? = some (.cells #[.int .i64 0, .int .i64 0] 66 (0, 0))) := ⟨by
    have h := blk_new (w.alloc (.cells #[.int .i64 a0_0, .int .i64 a0_1, .string a0_2, .slice A0_3 l0_3.length c0_3, .int .i64 a0_4, .int .i64 a0_5] 24)) (.cells #[.int .i64 0, .int .i64 0] 66)
    rwa [show (w.alloc (.cells #[.int .i64 a0_0, .int .i64 a0_1, .string a0_2, .slice A0_3 l0_3.length c0_3, .int .i64 a0_4, .int .i64 a0_5] 24)).heap.size = w.heap.size + 1 by simp] at h⟩
  go_enter Try.func12, Try.ntmps12
  go_wp2_with (go_at_call 37; (with_reducible refine (term_meter.walks k ⟨a0_0, a0_1, a0_2, l0_3, a0_4, a0_5⟩ A0_3 c0_3 w.heap.size (w.heap.size + 1) (0, 0) s _ (Kd.F_below HF.out (by repeat (first | exact Below.refl _ _ | apply below_alloc | apply below_drew))) hc0_3 (by omega) ?hg HS.out).mono ?_); (case hg => exact HG.out); rintro e w2 ⟨rfl, hg2, hb2⟩; (have HB2 : Aside0 (Below w.heap.size w w2) := ⟨(below_alloc (below_alloc (Below.refl _ _) _) _).trans hb2⟩); (have z0 : w2.cell? ⟨w.heap.size + 1, 0, none⟩ = some (.int .i64 s.1) := (blk_cell hg2 0).trans rfl); clear hg2 hb2)
  go_ret
  exact ⟨rfl, HB2.out⟩

-- NOT PRINTED: function 41 (api_Term_41)

end Go.Proofs.Ytppeaofdohghgaa.PTm
