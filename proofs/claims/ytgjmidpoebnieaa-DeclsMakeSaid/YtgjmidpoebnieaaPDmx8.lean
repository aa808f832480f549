-- SLIM: a printed text of which the unused ways are cut off
-- PRINTED by print.py (a twelfth state) out of the translation. Not trusted: Lean checks it.
import Derived.Test.YtgjmidpoebnieaaPDmx0
import Derived.Test.YtgjmidpoebnieaaPDmx4
namespace Go.Proofs.Ytgjmidpoebnieaa.PDm
open Go.RowKit Go.Proofs.YtgjmidpoebnieaaW.PrintWords Go.Proofs.YtgjmidpoebnieaaW.PrintLast Go.Proofs.YtgjmidpoebnieaaW.PrintMore
attribute [local go_sem] max2_int min2_int max_two min_two max_three min_three max_four min_four   -- for this text's walks alone
set_option linter.unusedVariables false
set_option linter.unusedSimpArgs false

/-! ### notaryref32_Names: function 33 -/
mutual
def notaryref32_Names.l0 : Nat → Int → Int → Int → Int → ByteArray → List (S24) → Int → Int → Option (Bool)
  | 0, _, _, _, _, _, _, _, _ => none
  | k + 1, x1, x5, x215000, x215001, x215002, x215003, x215004, x215005 => if x5 < (x215003.length : Int) then (if 0 ≤ x5 then ((notaryref32_Names.f k ((rd_T24 x215003 x5).f0) ((rd_T24 x215003 x5).f1) ((rd_T24 x215003 x5).f2) ((rd_T24 x215003 x5).f3) ((rd_T24 x215003 x5).f4) ((rd_T24 x215003 x5).f5) x1).bind fun t217 => (if t217 = true then (some true) else (notaryref32_Names.l0 k x1 (wrap64 (x5 + 1)) x215000 x215001 x215002 x215003 x215004 x215005))) else (none)) else (some false)
def notaryref32_Names.f : Nat → Int → Int → ByteArray → List (S24) → Int → Int → Int → Option (Bool)
  | 0, _, _, _, _, _, _, _ => none
  | k + 1, a0_0, a0_1, a0_2, l0_3, a0_4, a0_5, a1 => (notaryref32_Named.f k a0_0 a0_1 a0_2 l0_3 a0_4 a0_5).bind fun t215 => (if t215 = a1 then (some true) else (notaryref32_Names.l0 k a1 0 a0_0 a0_1 a0_2 l0_3 a0_4 a0_5))
end
theorem notaryref32_Names.mono_l : ∀ k, (∀ y0 y1 y2 y3 y4 y5 y6, LeO (notaryref32_Names.f k y0 y1 y2 y3 y4 y5 y6) (notaryref32_Names.f (k + 1) y0 y1 y2 y3 y4 y5 y6)) ∧ (∀ y0 y1 y2 y3 y4 y5 y6 y7, LeO (notaryref32_Names.l0 k y0 y1 y2 y3 y4 y5 y6 y7) (notaryref32_Names.l0 (k + 1) y0 y1 y2 y3 y4 y5 y6 y7))
  | 0 => ⟨fun _ _ _ _ _ _ _ r h => by simp [notaryref32_Names.f] at h, fun _ _ _ _ _ _ _ _ r h => by simp [notaryref32_Names.l0] at h⟩
  | k + 1 => by
    obtain ⟨ih0, ih1⟩ := notaryref32_Names.mono_l k
    refine ⟨?_, ?_⟩
    · intro y0 y1 y2 y3 y4 y5 y6
      unfold notaryref32_Names.f
      repeat' first | (with_reducible exact ih1 _ _ _ _ _ _ _ _) | (with_reducible exact notaryref32_Named.mono _ _ _ _ _ _ _) | (with_reducible exact LeO.refl _) | (with_reducible refine LeO.ite ?_ ?_) | (with_reducible refine LeO.bind ?_ (fun _ => ?_))
    · intro y0 y1 y2 y3 y4 y5 y6 y7
      unfold notaryref32_Names.l0
      repeat' first | (with_reducible exact ih0 _ _ _ _ _ _ _) | (with_reducible exact ih1 _ _ _ _ _ _ _ _) | (with_reducible exact LeO.refl _) | (with_reducible refine LeO.ite ?_ ?_) | (with_reducible refine LeO.bind ?_ (fun _ => ?_))
theorem notaryref32_Names.mono : ∀ a0 a1 a2 a3 a4 a5 a6 k, LeO (notaryref32_Names.f k a0 a1 a2 a3 a4 a5 a6) (notaryref32_Names.f (k + 1) a0 a1 a2 a3 a4 a5 a6) := by
  intro a0 a1 a2 a3 a4 a5 a6 k
  obtain ⟨ih0, ih1⟩ := notaryref32_Names.mono_l k
  exact ih0 a0 a1 a2 a3 a4 a5 a6
set_option maxHeartbeats 8000000 in
set_option maxRecDepth 100000 in
theorem notaryref32_Names.calls (k : Nat) : ∀ (a0_0 : Int) (a0_1 : Int) (a0_2 : ByteArray) (A0_3 : Option Addr) (c0_3 : Nat) (l0_3 : List (S24)) (a0_4 : Int) (a0_5 : Int) (a1 : Int) (r : Bool) (w : World) (hr0_3 : Kd.C k24 w A0_3 l0_3.length l0_3) (hc0_3 : l0_3.length ≤ c0_3) (h : notaryref32_Names.f k a0_0 a0_1 a0_2 l0_3 a0_4 a0_5 a1 = some r),
    Calls Try.prog 33 #[.agg #[.int .i64 a0_0, .int .i64 a0_1, .string a0_2, .slice A0_3 l0_3.length c0_3, .int .i64 a0_4, .int .i64 a0_5], .int .i64 a1] w fun e w' => e = .returned (.bool r) ∧ Below w.heap.size w w' := by
  induction k using Nat.strongRecOn with
  | _ k ih =>
  intro a0_0 a0_1 a0_2 A0_3 c0_3 l0_3 a0_4 a0_5 a1 r w hr0_3 hc0_3 h
  cases k with
  | zero => exact absurd h (by simp [notaryref32_Names.f])
  | succ k =>
  simp only [notaryref32_Names.f] at h
  have hu24 := Try.underlying24
  have HR0_3 := Aside0.mk hr0_3
  have HC0_3 := Aside0.mk hc0_3
  clear hr0_3 hc0_3
  have HB := Aside0.mk (Below.refl w.heap.size w)
  have H : ((notaryref32_Named.f k a0_0 a0_1 a0_2 l0_3 a0_4 a0_5).bind fun t215 => (if t215 = a1 then (some true) else (notaryref32_Names.l0 k a1 0 a0_0 a0_1 a0_2 l0_3 a0_4 a0_5))) = some r := h
  clear h
  replace H := Option.bind_eq_some_iff.mp H
  obtain ⟨t215, A30, H⟩ := H
  replace H : (if t215 = a1 then (some true) else (notaryref32_Names.l0 k a1 0 a0_0 a0_1 a0_2 l0_3 a0_4 a0_5)) = some r := H
  have A3 := Aside0.mk A30
  clear A30
  by_cases c4 : t215 = a1
  · rw [if_pos c4] at H
    have c4b0 : (t215 == a1) = true := beq_iff_eq.mpr c4
    have c4b1 : (t215 != a1) = false := bne_eq_false_iff_eq.mpr c4
    clear c4
    obtain rfl := Option.some.inj H
    go_enter Try.func33, Try.ntmps33
    go_wp2_with (first | ((with_reducible refine gate_dst (N := 2) rfl ?_); refine box_event ?hg (N := 2) ?hd (cs := #[.int .i64 a0_0, .int .i64 a0_1, .string a0_2, .slice A0_3 l0_3.length c0_3, .int .i64 a0_4, .int .i64 a0_5]) (t := 24) ?hr ?_; (case hd => rfl); (case hg => rfl); (case hr => (go_simp; done)); intro gb214 hg w5 hbox hb; have n0_ := Aside0.mk (below_step HB.out hb); have n1_ := Aside0.mk (hbox); have n2_ := Aside0.mk ((by rw [hg]; exact (below_size HB.out) : w.heap.size ≤ gb214)); have n3_ := Aside0.mk ((by rw [hg]; exact (below_size HB.out) : w.heap.size ≤ gb214)); clear HB; have HB := n0_; have BK214 := n1_; have GW214 := n2_; have GE214 := n3_; clear n0_ n1_ n2_ n3_; clear hb hbox hg; have hcz6_0 : w5.cell? ⟨gb214, 0, none⟩ = some (.int .i64 a0_0) := (blk_cell BK214.out 0).trans rfl; have hcz6_1 : w5.cell? ⟨gb214, 1, none⟩ = some (.int .i64 a0_1) := (blk_cell BK214.out 1).trans rfl; have hcz6_2 : w5.cell? ⟨gb214, 2, none⟩ = some (.string a0_2) := (blk_cell BK214.out 2).trans rfl; have hcz6_3 : w5.cell? ⟨gb214, 3, none⟩ = some (.slice A0_3 l0_3.length c0_3) := (blk_cell BK214.out 3).trans rfl; have hcz6_4 : w5.cell? ⟨gb214, 4, none⟩ = some (.int .i64 a0_4) := (blk_cell BK214.out 4).trans rfl; have hcz6_5 : w5.cell? ⟨gb214, 5, none⟩ = some (.int .i64 a0_5) := (blk_cell BK214.out 5).trans rfl; have hfz6_0 := blk_frozen BK214.out 0; have hfz6_1 := blk_frozen BK214.out 1; have hfz6_2 := blk_frozen BK214.out 2; have hfz6_3 := blk_frozen BK214.out 3; have hfz6_4 := blk_frozen BK214.out 4; have hfz6_5 := blk_frozen BK214.out 5) | ((with_reducible refine gate_callee (f := 39) rfl ?_); refine goesL_ (some 7) rfl rfl Try.func39 (by kernel_rfl) rfl #[.agg #[.int .i64 a0_0, .int .i64 a0_1, .string a0_2, .slice A0_3 l0_3.length c0_3, .int .i64 a0_4, .int .i64 a0_5]] rfl (by (try simp only [List.map_toArray, List.map_cons, List.map_nil]); (rfl)) ?_; (with_reducible refine (notaryref32_Named.calls k a0_0 a0_1 a0_2 _ _ l0_3 a0_4 a0_5 t215 _ ?side1 ?side2 A3.out).mono ?_); (case side1 => exact Kd.C_below HR0_3.out HB.out); (case side2 => exact HC0_3.out); rintro e w7 ⟨rfl, hb⟩; refine ⟨_, rfl, ?_⟩; have n0_ := Aside0.mk (blk_below (g := gb214) (o := .cells #[.int .i64 a0_0, .int .i64 a0_1, .string a0_2, .slice A0_3 l0_3.length c0_3, .int .i64 a0_4, .int .i64 a0_5] 24 (0, 0)) (by exact BK214.out) hb); have n1_ := Aside0.mk (below_step HB.out hb); clear BK214; clear HB; have BK214 := n0_; have HB := n1_; clear n0_ n1_; (try clear hb); (skip)))
    go_ret
    exact ⟨by (rfl), HB.out⟩
  rw [if_neg c4] at H
  have c4b0 : (t215 == a1) = false := beq_eq_false_iff_ne.mpr c4
  have c4b1 : (t215 != a1) = true := bne_iff_ne.mpr c4
  have H' := Aside0.mk H
  clear H
  go_enter Try.func33, Try.ntmps33
  go_wp2_with (first | ((with_reducible refine gate_dst (N := 2) rfl ?_); refine box_event ?hg (N := 2) ?hd (cs := #[.int .i64 a0_0, .int .i64 a0_1, .string a0_2, .slice A0_3 l0_3.length c0_3, .int .i64 a0_4, .int .i64 a0_5]) (t := 24) ?hr ?_; (case hd => rfl); (case hg => rfl); (case hr => (go_simp; done)); intro gb214 hg w8 hbox hb; have n0_ := Aside0.mk (below_step HB.out hb); have n1_ := Aside0.mk (hbox); have n2_ := Aside0.mk ((by rw [hg]; exact (below_size HB.out) : w.heap.size ≤ gb214)); have n3_ := Aside0.mk ((by rw [hg]; exact (below_size HB.out) : w.heap.size ≤ gb214)); clear HB; have HB := n0_; have BK214 := n1_; have GW214 := n2_; have GE214 := n3_; clear n0_ n1_ n2_ n3_; clear hb hbox hg; have hcz9_0 : w8.cell? ⟨gb214, 0, none⟩ = some (.int .i64 a0_0) := (blk_cell BK214.out 0).trans rfl; have hcz9_1 : w8.cell? ⟨gb214, 1, none⟩ = some (.int .i64 a0_1) := (blk_cell BK214.out 1).trans rfl; have hcz9_2 : w8.cell? ⟨gb214, 2, none⟩ = some (.string a0_2) := (blk_cell BK214.out 2).trans rfl; have hcz9_3 : w8.cell? ⟨gb214, 3, none⟩ = some (.slice A0_3 l0_3.length c0_3) := (blk_cell BK214.out 3).trans rfl; have hcz9_4 : w8.cell? ⟨gb214, 4, none⟩ = some (.int .i64 a0_4) := (blk_cell BK214.out 4).trans rfl; have hcz9_5 : w8.cell? ⟨gb214, 5, none⟩ = some (.int .i64 a0_5) := (blk_cell BK214.out 5).trans rfl; have hfz9_0 := blk_frozen BK214.out 0; have hfz9_1 := blk_frozen BK214.out 1; have hfz9_2 := blk_frozen BK214.out 2; have hfz9_3 := blk_frozen BK214.out 3; have hfz9_4 := blk_frozen BK214.out 4; have hfz9_5 := blk_frozen BK214.out 5) | ((with_reducible refine gate_callee (f := 39) rfl ?_); refine goesL_ (some 7) rfl rfl Try.func39 (by kernel_rfl) rfl #[.agg #[.int .i64 a0_0, .int .i64 a0_1, .string a0_2, .slice A0_3 l0_3.length c0_3, .int .i64 a0_4, .int .i64 a0_5]] rfl (by (try simp only [List.map_toArray, List.map_cons, List.map_nil]); (rfl)) ?_; (with_reducible refine (notaryref32_Named.calls k a0_0 a0_1 a0_2 _ _ l0_3 a0_4 a0_5 t215 _ ?side1 ?side2 A3.out).mono ?_); (case side1 => exact Kd.C_below HR0_3.out HB.out); (case side2 => exact HC0_3.out); rintro e w10 ⟨rfl, hb⟩; refine ⟨_, rfl, ?_⟩; have n0_ := Aside0.mk (blk_below (g := gb214) (o := .cells #[.int .i64 a0_0, .int .i64 a0_1, .string a0_2, .slice A0_3 l0_3.length c0_3, .int .i64 a0_4, .int .i64 a0_5] 24 (0, 0)) (by exact BK214.out) hb); have n1_ := Aside0.mk (below_step HB.out hb); clear BK214; clear HB; have BK214 := n0_; have HB := n1_; clear n0_ n1_; (try clear hb); (skip)))
  go_loopg [5] k (fun kq v5 w' => ∃ (x5_1 : Int), v5 = .int .i64 x5_1 ∧ Aside0 (notaryref32_Names.l0 kq a1 x5_1 a0_0 a0_1 a0_2 l0_3 a0_4 a0_5 = some r) ∧ Aside0 (kq ≤ k) ∧ Aside0 (w'.heap[gb214]? = some (.cells #[.int .i64 a0_0, .int .i64 a0_1, .string a0_2, (.slice A0_3 l0_3.length c0_3), .int .i64 a0_4, .int .i64 a0_5] 24 (0, 0))) ∧ Aside0 (Below w.heap.size w w'))
  case atStart => exact ⟨(0), (by (rfl)), H', ⟨Nat.le_refl _⟩, ⟨by exact BK214.out⟩, ⟨HB.out⟩⟩
  clear H'
  try clear c4
  try clear c4b0
  try clear c4b1
  try clear hcz9_0
  try clear hcz9_1
  try clear hcz9_2
  try clear hcz9_3
  try clear hcz9_4
  try clear hcz9_5
  try clear hfz9_0
  try clear hfz9_1
  try clear hfz9_2
  try clear hfz9_3
  try clear hfz9_4
  try clear hfz9_5
  obtain ⟨x5_1, rfl, HA, HK1, BK214, HB⟩ := hrel
  rcases gk with _ | k1
  · exact absurd HA.out (by simp [notaryref32_Names.l0])
  have H := HA.out
  clear HA
  simp only [notaryref32_Names.l0] at H
  by_cases c11 : x5_1 < (l0_3.length : Int)
  rotate_left
  · rw [if_neg c11] at H
    have c11b0 : decide (x5_1 < (l0_3.length : Int)) = false := decide_eq_false c11
    clear c11
    obtain rfl := Option.some.inj H
    have hcz19_0 : wr.cell? ⟨gb214, 0, none⟩ = some (.int .i64 a0_0) := (blk_cell BK214.out 0).trans rfl
    have hcz19_1 : wr.cell? ⟨gb214, 1, none⟩ = some (.int .i64 a0_1) := (blk_cell BK214.out 1).trans rfl
    have hcz19_2 : wr.cell? ⟨gb214, 2, none⟩ = some (.string a0_2) := (blk_cell BK214.out 2).trans rfl
    have hcz19_3 : wr.cell? ⟨gb214, 3, none⟩ = some (.slice A0_3 l0_3.length c0_3) := (blk_cell BK214.out 3).trans rfl
    have hcz19_4 : wr.cell? ⟨gb214, 4, none⟩ = some (.int .i64 a0_4) := (blk_cell BK214.out 4).trans rfl
    have hcz19_5 : wr.cell? ⟨gb214, 5, none⟩ = some (.int .i64 a0_5) := (blk_cell BK214.out 5).trans rfl
    have hfz19_0 := blk_frozen BK214.out 0
    have hfz19_1 := blk_frozen BK214.out 1
    have hfz19_2 := blk_frozen BK214.out 2
    have hfz19_3 := blk_frozen BK214.out 3
    have hfz19_4 := blk_frozen BK214.out 4
    have hfz19_5 := blk_frozen BK214.out 5
    go_wp2
    go_ret
    exact ⟨by (rfl), HB.out⟩

  rw [if_pos c11] at H
  have c11b0 : decide (x5_1 < (l0_3.length : Int)) = true := decide_eq_true c11
  clear c11
  by_cases c12 : 0 ≤ x5_1
  rotate_left
  · rw [if_neg c12] at H
    exact absurd H (by simp)
  rw [if_pos c12] at H
  have c12b0 : decide (0 ≤ x5_1) = true := decide_eq_true c12
  clear c12
  replace H := Option.bind_eq_some_iff.mp H
  obtain ⟨t217, A130, H⟩ := H
  replace H : (if t217 = true then (some true) else (notaryref32_Names.l0 k1 a1 (wrap64 (x5_1 + 1)) a0_0 a0_1 a0_2 l0_3 a0_4 a0_5)) = some r := H
  have A13 := Aside0.mk A130
  clear A130
  by_cases c14 : t217 = true
  · subst c14
    have H1 : (some true) = some r := by rw [if_pos rfl] at H; exact H
    clear H
    have H := H1
    clear H1
    obtain rfl := Option.some.inj H
    have hcz15_0 : wr.cell? ⟨gb214, 0, none⟩ = some (.int .i64 a0_0) := (blk_cell BK214.out 0).trans rfl
    have hcz15_1 : wr.cell? ⟨gb214, 1, none⟩ = some (.int .i64 a0_1) := (blk_cell BK214.out 1).trans rfl
    have hcz15_2 : wr.cell? ⟨gb214, 2, none⟩ = some (.string a0_2) := (blk_cell BK214.out 2).trans rfl
    have hcz15_3 : wr.cell? ⟨gb214, 3, none⟩ = some (.slice A0_3 l0_3.length c0_3) := (blk_cell BK214.out 3).trans rfl
    have hcz15_4 : wr.cell? ⟨gb214, 4, none⟩ = some (.int .i64 a0_4) := (blk_cell BK214.out 4).trans rfl
    have hcz15_5 : wr.cell? ⟨gb214, 5, none⟩ = some (.int .i64 a0_5) := (blk_cell BK214.out 5).trans rfl
    have hfz15_0 := blk_frozen BK214.out 0
    have hfz15_1 := blk_frozen BK214.out 1
    have hfz15_2 := blk_frozen BK214.out 2
    have hfz15_3 := blk_frozen BK214.out 3
    have hfz15_4 := blk_frozen BK214.out 4
    have hfz15_5 := blk_frozen BK214.out 5
    have p216 : 0 ≤ (x5_1 : Int) := of_decide_eq_true (by (with_reducible assumption))
    have q216 : x5_1 < (l0_3.length : Int) := of_decide_eq_true (by (with_reducible assumption))
    obtain ⟨ad216, A216_3, c216_3, e216, hx216_0, hx216_1, hx216_2, hx216_3, hx216_4, hx216_5, hl216_3, hi216_3⟩ := at_T24 HR0_3.out x5_1 p216 q216
    cases e216
    replace hx216_0 := pw_cell_below HB.out hx216_0
    replace hx216_1 := pw_cell_below HB.out hx216_1
    replace hx216_2 := pw_cell_below HB.out hx216_2
    replace hx216_3 := pw_cell_below HB.out hx216_3
    replace hx216_4 := pw_cell_below HB.out hx216_4
    replace hx216_5 := pw_cell_below HB.out hx216_5
    have HR216_3 := Aside0.mk hi216_3
    have HC216_3 := Aside0.mk hl216_3
    clear hi216_3 hl216_3
    replace p216 := eq_true p216
    replace q216 := eq_true q216
    go_wp2_with ((((with_reducible refine gate_callee (f := 33) rfl ?_); refine goesL_ (some 23) rfl rfl Try.func33 (by kernel_rfl) rfl #[.agg #[.int .i64 ((rd_T24 l0_3 x5_1).f0), .int .i64 ((rd_T24 l0_3 x5_1).f1), .string ((rd_T24 l0_3 x5_1).f2), .slice A216_3 ((rd_T24 l0_3 x5_1).f3).length c216_3, .int .i64 ((rd_T24 l0_3 x5_1).f4), .int .i64 ((rd_T24 l0_3 x5_1).f5)], .int .i64 a1] rfl (by (try simp only [List.map_toArray, List.map_cons, List.map_nil]); (rfl)) ?_; (with_reducible refine (ih k1 (by have := HK1.out; omega) ((rd_T24 l0_3 x5_1).f0) ((rd_T24 l0_3 x5_1).f1) ((rd_T24 l0_3 x5_1).f2) _ _ ((rd_T24 l0_3 x5_1).f3) ((rd_T24 l0_3 x5_1).f4) ((rd_T24 l0_3 x5_1).f5) a1 true _ ?side1 ?side2 A13.out).mono ?_); (case side1 => exact Kd.C_below HR216_3.out HB.out); (case side2 => exact HC216_3.out); rintro e w16 ⟨rfl, hb⟩; refine ⟨_, rfl, ?_⟩; have n0_ := Aside0.mk (blk_below (g := gb214) (o := .cells #[.int .i64 a0_0, .int .i64 a0_1, .string a0_2, .slice (some ad216) l0_3.length c0_3, .int .i64 a0_4, .int .i64 a0_5] 24 (0, 0)) (by exact BK214.out) hb); have n1_ := Aside0.mk (below_step HB.out hb); clear BK214; clear HB; have BK214 := n0_; have HB := n1_; clear n0_ n1_; (try clear hb); (skip))))
    go_ret
    exact ⟨by (rfl), HB.out⟩
  replace c14 := Bool.eq_false_iff.mpr c14
  subst c14
  have H1 : (notaryref32_Names.l0 k1 a1 (wrap64 (x5_1 + 1)) a0_0 a0_1 a0_2 l0_3 a0_4 a0_5) = some r := by rw [if_neg (show ¬ (false = true) by decide)] at H; exact H
  clear H
  have H := H1
  clear H1
  have H' := Aside0.mk H
  clear H
  have hcz17_0 : wr.cell? ⟨gb214, 0, none⟩ = some (.int .i64 a0_0) := (blk_cell BK214.out 0).trans rfl
  have hcz17_1 : wr.cell? ⟨gb214, 1, none⟩ = some (.int .i64 a0_1) := (blk_cell BK214.out 1).trans rfl
  have hcz17_2 : wr.cell? ⟨gb214, 2, none⟩ = some (.string a0_2) := (blk_cell BK214.out 2).trans rfl
  have hcz17_3 : wr.cell? ⟨gb214, 3, none⟩ = some (.slice A0_3 l0_3.length c0_3) := (blk_cell BK214.out 3).trans rfl
  have hcz17_4 : wr.cell? ⟨gb214, 4, none⟩ = some (.int .i64 a0_4) := (blk_cell BK214.out 4).trans rfl
  have hcz17_5 : wr.cell? ⟨gb214, 5, none⟩ = some (.int .i64 a0_5) := (blk_cell BK214.out 5).trans rfl
  have hfz17_0 := blk_frozen BK214.out 0
  have hfz17_1 := blk_frozen BK214.out 1
  have hfz17_2 := blk_frozen BK214.out 2
  have hfz17_3 := blk_frozen BK214.out 3
  have hfz17_4 := blk_frozen BK214.out 4
  have hfz17_5 := blk_frozen BK214.out 5
  have p216 : 0 ≤ (x5_1 : Int) := of_decide_eq_true (by (with_reducible assumption))
  have q216 : x5_1 < (l0_3.length : Int) := of_decide_eq_true (by (with_reducible assumption))
  obtain ⟨ad216, A216_3, c216_3, e216, hx216_0, hx216_1, hx216_2, hx216_3, hx216_4, hx216_5, hl216_3, hi216_3⟩ := at_T24 HR0_3.out x5_1 p216 q216
  cases e216
  replace hx216_0 := pw_cell_below HB.out hx216_0
  replace hx216_1 := pw_cell_below HB.out hx216_1
  replace hx216_2 := pw_cell_below HB.out hx216_2
  replace hx216_3 := pw_cell_below HB.out hx216_3
  replace hx216_4 := pw_cell_below HB.out hx216_4
  replace hx216_5 := pw_cell_below HB.out hx216_5
  have HR216_3 := Aside0.mk hi216_3
  have HC216_3 := Aside0.mk hl216_3
  clear hi216_3 hl216_3
  replace p216 := eq_true p216
  replace q216 := eq_true q216
  go_wp2_with ((((with_reducible refine gate_callee (f := 33) rfl ?_); refine goesL_ (some 23) rfl rfl Try.func33 (by kernel_rfl) rfl #[.agg #[.int .i64 ((rd_T24 l0_3 x5_1).f0), .int .i64 ((rd_T24 l0_3 x5_1).f1), .string ((rd_T24 l0_3 x5_1).f2), .slice A216_3 ((rd_T24 l0_3 x5_1).f3).length c216_3, .int .i64 ((rd_T24 l0_3 x5_1).f4), .int .i64 ((rd_T24 l0_3 x5_1).f5)], .int .i64 a1] rfl (by (try simp only [List.map_toArray, List.map_cons, List.map_nil]); (rfl)) ?_; (with_reducible refine (ih k1 (by have := HK1.out; omega) ((rd_T24 l0_3 x5_1).f0) ((rd_T24 l0_3 x5_1).f1) ((rd_T24 l0_3 x5_1).f2) _ _ ((rd_T24 l0_3 x5_1).f3) ((rd_T24 l0_3 x5_1).f4) ((rd_T24 l0_3 x5_1).f5) a1 false _ ?side1 ?side2 A13.out).mono ?_); (case side1 => exact Kd.C_below HR216_3.out HB.out); (case side2 => exact HC216_3.out); rintro e w18 ⟨rfl, hb⟩; refine ⟨_, rfl, ?_⟩; have n0_ := Aside0.mk (blk_below (g := gb214) (o := .cells #[.int .i64 a0_0, .int .i64 a0_1, .string a0_2, .slice (some ad216) l0_3.length c0_3, .int .i64 a0_4, .int .i64 a0_5] 24 (0, 0)) (by exact BK214.out) hb); have n1_ := Aside0.mk (below_step HB.out hb); clear BK214; clear HB; have BK214 := n0_; have HB := n1_; clear n0_ n1_; (try clear hb); (skip))))
  go_roundg k1
  case measure => have := HK1.out; omega
  case rel => exact ⟨(wrap64 (x5_1 + 1)), (by (rfl)), H', ⟨by have := HK1.out; omega⟩, ⟨by exact BK214.out⟩, ⟨HB.out⟩⟩
end Go.Proofs.Ytgjmidpoebnieaa.PDm
