-- SLIM: a printed text of which the unused ways are cut off
-- PRINTED by print.py (a twelfth state) out of the translation. Not trusted: Lean checks it.
import Derived.Test.YtogjnipojakfjaaPJdx0
import Derived.Test.YtogjnipojakfjaaPJdx1
import Derived.Test.YtogjnipojakfjaaPJdx9
namespace Go.Proofs.Ytogjnipojakfjaa.PJd
open Go.RowKit Go.Proofs.YtogjnipojakfjaaW.PrintWords Go.Proofs.YtogjnipojakfjaaW.PrintLast Go.Proofs.YtogjnipojakfjaaW.PrintMore
attribute [local go_sem] max2_int min2_int max_two min_two max_three min_three max_four min_four   -- for this text's walks alone
set_option linter.unusedVariables false
set_option linter.unusedSimpArgs false

/-! ### chain_Message: function 54 -/
def chain_Message.l0 : Nat → Int → List Int → List Int → Int → Option (List Int × Int)
  | 0, _, _, _, _ => none
  | k + 1, x1, x8, x10, x11 => if x11 ≥ 0 then (if 0 ≤ x11 then (if x10.length < 140737488355328 then (chain_Message.l0 k x1 x8 (x10 ++ [(shr .u64 x1 x11) % 256]) (wrap64 (x11 - 8))) else (none)) else (none)) else (if x10.length + x8.length < 140737488355328 then (some ((x10 ++ x8), 0)) else (none))
def chain_Message.f (k : Nat) (l0 : List Int) (a1 : Int) (a2_0 : Int) (l2_1 : List Int) : Option (List Int × Int) := if (l0.length : Int) = 32 then ((entry_Payload.f a2_0 l2_1).bind fun bt368 => (if bt368.2 = 0 then ((some (([] : List Int) : List Int)).bind fun y372 => (if y372.length + l0.length < 140737488355328 then (chain_Message.l0 k a1 bt368.1 (y372 ++ l0) 56) else (none))) else (some (([] : List Int), bt368.2)))) else (some (([] : List Int), 2))
set_option maxHeartbeats 8000000 in
set_option maxRecDepth 100000 in
theorem chain_Message.calls (k : Nat) (A0 : Option Addr) (c0 : Nat) (l0 : List Int) (a1 : Int) (a2_0 : Int) (A2_1 : Option Addr) (c2_1 : Nat) (l2_1 : List Int) (r1 : List Int) (r2 : Int) (w : World) (hr0 : Kd.C (Kd.int .u8) w A0 l0.length l0) (hc0 : l0.length ≤ c0) (hr2_1 : Kd.C (Kd.int .u8) w A2_1 l2_1.length l2_1) (hc2_1 : l2_1.length ≤ c2_1) (h : chain_Message.f k l0 a1 a2_0 l2_1 = some (r1, r2)) :
    Calls Try.prog 54 #[.slice A0 l0.length c0, .int .u64 a1, .agg #[.int .i64 a2_0, .slice A2_1 l2_1.length c2_1]] w fun e w' => ∃ v0_ : Value, e = .returned (.tuple #[v0_, .int .i64 r2]) ∧ Kd.R (Kd.int .u8) 5 w' w.heap.size (fun _ => True) v0_ r1 ∧ Below w.heap.size w w' := by
  have hu35 := Try.underlying35
  have HR0 := Aside0.mk hr0
  have HC0 := Aside0.mk hc0
  clear hr0 hc0
  have HR2_1 := Aside0.mk hr2_1
  have HC2_1 := Aside0.mk hc2_1
  clear hr2_1 hc2_1
  have HB := Aside0.mk (Below.refl w.heap.size w)
  have H : (if (l0.length : Int) = 32 then ((entry_Payload.f a2_0 l2_1).bind fun bt368 => (if bt368.2 = 0 then ((some (([] : List Int) : List Int)).bind fun y372 => (if y372.length + l0.length < 140737488355328 then (chain_Message.l0 k a1 bt368.1 (y372 ++ l0) 56) else (none))) else (some (([] : List Int), bt368.2)))) else (some (([] : List Int), 2))) = some (r1, r2) := h
  clear h
  by_cases c4 : (l0.length : Int) = 32
  rotate_left
  · rw [if_neg c4] at H
    have c4b0 : ((l0.length : Int) == 32) = false := beq_eq_false_iff_ne.mpr c4
    have c4b1 : ((l0.length : Int) != 32) = true := bne_iff_ne.mpr c4
    simp only [Option.some.injEq, Prod.mk.injEq] at H
    obtain ⟨rfl, rfl⟩ := H
    go_enter Try.func54, Try.ntmps54
    go_wp2_with ((((with_reducible refine gate_dst (N := 5) rfl ?_); refine box_event ?hg (N := 5) ?hd (cs := #[.int .i64 a2_0, .slice A2_1 l2_1.length c2_1]) (t := 35) ?hr ?_; (case hd => rfl); (case hg => rfl); (case hr => (go_simp; done)); intro gb367 hg w25 hbox hb; have n0_ := Aside0.mk (below_step HB.out hb); have n1_ := Aside0.mk (hbox); have n2_ := Aside0.mk ((by rw [hg]; exact (below_size HB.out) : w.heap.size ≤ gb367)); have n3_ := Aside0.mk ((by rw [hg]; exact (below_size HB.out) : w.heap.size ≤ gb367)); clear HB; have HB := n0_; have BK367 := n1_; have GW367 := n2_; have GE367 := n3_; clear n0_ n1_ n2_ n3_; clear hb hbox hg)))
    go_ret2
    exact ⟨_, by (rfl), by (exact Kd.R_nil _ _ _ _ _), HB.out⟩

  rw [if_pos c4] at H
  have c4b0 : ((l0.length : Int) == 32) = true := beq_iff_eq.mpr c4
  have c4b1 : ((l0.length : Int) != 32) = false := bne_eq_false_iff_eq.mpr c4
  clear c4
  replace H := Option.bind_eq_some_iff.mp H
  obtain ⟨⟨t368, t371⟩, A50, H⟩ := H
  replace H : (if t371 = 0 then ((some (([] : List Int) : List Int)).bind fun y372 => (if y372.length + l0.length < 140737488355328 then (chain_Message.l0 k a1 t368 (y372 ++ l0) 56) else (none))) else (some (([] : List Int), t371))) = some (r1, r2) := H
  have A5 := Aside0.mk A50
  clear A50
  by_cases c6 : t371 = 0
  rotate_left
  · rw [if_neg c6] at H
    have c6b0 : (t371 == 0) = false := beq_eq_false_iff_ne.mpr c6
    have c6b1 : (t371 != 0) = true := bne_iff_ne.mpr c6
    simp only [Option.some.injEq, Prod.mk.injEq] at H
    obtain ⟨rfl, rfl⟩ := H
    go_enter Try.func54, Try.ntmps54
    go_wp2_with (first | ((with_reducible refine gate_dst (N := 5) rfl ?_); refine box_event ?hg (N := 5) ?hd (cs := #[.int .i64 a2_0, .slice A2_1 l2_1.length c2_1]) (t := 35) ?hr ?_; (case hd => rfl); (case hg => rfl); (case hr => (go_simp; done)); intro gb367 hg w22 hbox hb; have n0_ := Aside0.mk (below_step HB.out hb); have n1_ := Aside0.mk (hbox); have n2_ := Aside0.mk ((by rw [hg]; exact (below_size HB.out) : w.heap.size ≤ gb367)); have n3_ := Aside0.mk ((by rw [hg]; exact (below_size HB.out) : w.heap.size ≤ gb367)); clear HB; have HB := n0_; have BK367 := n1_; have GW367 := n2_; have GE367 := n3_; clear n0_ n1_ n2_ n3_; clear hb hbox hg; have hcz23_0 : w22.cell? ⟨gb367, 0, none⟩ = some (.int .i64 a2_0) := (blk_cell BK367.out 0).trans rfl; have hcz23_1 : w22.cell? ⟨gb367, 1, none⟩ = some (.slice A2_1 l2_1.length c2_1) := (blk_cell BK367.out 1).trans rfl; have hfz23_0 := blk_frozen BK367.out 0; have hfz23_1 := blk_frozen BK367.out 1) | ((with_reducible refine gate_callee (f := 56) rfl ?_); refine goesL_ (some 17) rfl rfl Try.func56 (by kernel_rfl) rfl #[.agg #[.int .i64 a2_0, .slice A2_1 l2_1.length c2_1]] rfl (by (try simp only [List.map_toArray, List.map_cons, List.map_nil]); (rfl)) ?_; (with_reducible refine (entry_Payload.calls a2_0 _ _ l2_1 t368 t371 _ ?side1 ?side2 A5.out).mono ?_); (case side1 => exact Kd.C_below HR2_1.out HB.out); (case side2 => exact HC2_1.out); rintro e w24 ⟨v369, rfl, ho0, hb⟩; refine ⟨_, rfl, ?_⟩; have n0_ := Aside0.mk (Kd.R_lower ho0 (below_size HB.out)); have n1_ := Aside0.mk (blk_below (g := gb367) (o := .cells #[.int .i64 a2_0, .slice A2_1 l2_1.length c2_1] 35 (0, 0)) (by exact BK367.out) hb); have n2_ := Aside0.mk (below_step HB.out hb); clear BK367; clear HB; have HO370 := n0_; have BK367 := n1_; have HB := n2_; clear n0_ n1_ n2_; (try clear hb); (try clear ho0)))
    go_ret2
    exact ⟨_, by (rfl), by (exact Kd.R_nil _ _ _ _ _), HB.out⟩
  rw [if_pos c6] at H
  have c6b0 : (t371 == 0) = true := beq_iff_eq.mpr c6
  have c6b1 : (t371 != 0) = false := bne_eq_false_iff_eq.mpr c6
  clear c6
  obtain ⟨y372, hy372⟩ : ∃ y_ : List Int, y_ = ([] : List Int) := ⟨_, rfl⟩
  replace H : (if y372.length + l0.length < 140737488355328 then (chain_Message.l0 k a1 t368 (y372 ++ l0) 56) else (none)) = some (r1, r2) := by ((have H2_ := (Option.bind_some _ _).symm.trans H; rw [hy372]; with_reducible exact H2_))
  have Ny372 := Aside0.mk hy372
  clear hy372
  by_cases c7 : y372.length + l0.length < 140737488355328
  rotate_left
  · rw [if_neg c7] at H
    exact absurd H (by simp)
  rw [if_pos c7] at H
  have LMc7 := Aside0.mk c7
  clear c7
  obtain ⟨y375, hy375⟩ : ∃ y_ : List Int, y_ = (y372 ++ l0) := ⟨_, rfl⟩
  replace H : (chain_Message.l0 k a1 t368 y375 56) = some (r1, r2) := by (rw [hy375]; with_reducible exact H)
  have Ny375 := Aside0.mk hy375
  clear hy375
  have H' := Aside0.mk H
  clear H
  go_enter Try.func54, Try.ntmps54
  go_wp2_with (first | ((with_reducible refine gate_dst (N := 5) rfl ?_); refine box_event ?hg (N := 5) ?hd (cs := #[.int .i64 a2_0, .slice A2_1 l2_1.length c2_1]) (t := 35) ?hr ?_; (case hd => rfl); (case hg => rfl); (case hr => (go_simp; done)); intro gb367 hg w8 hbox hb; have n0_ := Aside0.mk (below_step HB.out hb); have n1_ := Aside0.mk (hbox); have n2_ := Aside0.mk ((by rw [hg]; exact (below_size HB.out) : w.heap.size ≤ gb367)); have n3_ := Aside0.mk ((by rw [hg]; exact (below_size HB.out) : w.heap.size ≤ gb367)); clear HB; have HB := n0_; have BK367 := n1_; have GW367 := n2_; have GE367 := n3_; clear n0_ n1_ n2_ n3_; clear hb hbox hg; have hcz9_0 : w8.cell? ⟨gb367, 0, none⟩ = some (.int .i64 a2_0) := (blk_cell BK367.out 0).trans rfl; have hcz9_1 : w8.cell? ⟨gb367, 1, none⟩ = some (.slice A2_1 l2_1.length c2_1) := (blk_cell BK367.out 1).trans rfl; have hfz9_0 := blk_frozen BK367.out 0; have hfz9_1 := blk_frozen BK367.out 1) | ((with_reducible refine gate_callee (f := 56) rfl ?_); refine goesL_ (some 17) rfl rfl Try.func56 (by kernel_rfl) rfl #[.agg #[.int .i64 a2_0, .slice A2_1 l2_1.length c2_1]] rfl (by (try simp only [List.map_toArray, List.map_cons, List.map_nil]); (rfl)) ?_; (with_reducible refine (entry_Payload.calls a2_0 _ _ l2_1 t368 t371 _ ?side1 ?side2 A5.out).mono ?_); (case side1 => exact Kd.C_below HR2_1.out HB.out); (case side2 => exact HC2_1.out); rintro e w10 ⟨v369, rfl, ho0, hb⟩; refine ⟨_, rfl, ?_⟩; have n0_ := Aside0.mk (Kd.R_lower ho0 (below_size HB.out)); have n1_ := Aside0.mk (blk_below (g := gb367) (o := .cells #[.int .i64 a2_0, .slice A2_1 l2_1.length c2_1] 35 (0, 0)) (by exact BK367.out) hb); have n2_ := Aside0.mk (below_step HB.out hb); clear BK367; clear HB; have HO370 := n0_; have BK367 := n1_; have HB := n2_; clear n0_ n1_ n2_; (try clear hb); (try clear ho0)) | ((with_reducible refine gate_dst (N := 23) rfl ?_); refine Kd.R_lit (Kd.int .u8) _ 5 ?hg (N := 23) ?hd (xs := ([] : List Int)) (inner := []) (ok := fun _ => True) (okp := fun _ => True) ?hr ?hp (fun _ hk => hk) trivial (Below.refl _ _) (Nat.le_refl _) (by simp) ?_; (case hd => rfl); (case hg => rfl); (case hr => (go_simp; done)); (case hp => exact (Reps.none _ _)); intro v373 w11 ho12 hb hg_ hnew_; clear hg_ hnew_; (rw [← Ny372.out] at ho12); have n0_ := Aside0.mk (Kd.R_elder' (by exact HO370.out) (Kd.R_base ho12) hb); have n1_ := Aside0.mk (Kd.R_lower (Kd.R_new' ho12 (Kd.R_lt (by exact HO370.out))) (below_size HB.out)); have n2_ := Aside0.mk (blk_below (g := gb367) (o := .cells #[.int .i64 a2_0, .slice A2_1 l2_1.length c2_1] 35 (0, 0)) (by exact BK367.out) hb); have n3_ := Aside0.mk (below_step HB.out hb); clear HO370; clear BK367; clear HB; have HO370 := n0_; have HO374 := n1_; have BK367 := n2_; have HB := n3_; clear n0_ n1_ n2_ n3_; clear hb ho12) | ((with_reducible refine gate_builtin (b := .append) (xs := #[.tmp 23, .tmp 24]) rfl ?_); at_builtin; refine Kd.R_append_rows (Kd.int .u8) (w0 := w) w.heap.size rfl (.tmp 23) (.tmp 24) 22 5 (.int .u8 0) 1 rfl Try.underlying22 info5 rfl (by decide) (by omega) v373 y372 l0 _ _ _ (fun k_ => some k_ ≠ (v369 : Value).ownBlock) (fun _ => False) rfl rfl ?aO ?aR (fun _ _ h => h) (fun _ h => h.elim) ?aF ?aB ?aS ?aL ?_; (case aR => exact Kd.C_below HR0.out HB.out); (case aB => exact HB.out); (case aF => exact (fun k_ hk => Kd.fresh' (Kd.R_lt (by exact HO370.out)) k_ hk)); (case aO => exact (by exact Kd.R_mono HO374.out (fun _ hk => hk.2))); (case aS => exact (below_size HB.out)); (case aL => have := LMc7.out; omega); intro v376 w13 ho hb hg hat; rw [← Ny375.out] at ho; have n0_ := Aside0.mk (blk_grown (g := gb367) (o := .cells #[.int .i64 a2_0, .slice A2_1 l2_1.length c2_1] 35 (0, 0)) (by exact BK367.out) hg (Kd.R_ne HO374.out BK367.out (by decide))); have n1_ := Aside0.mk (Kd.R_after (ok := (fun _ => True)) (by exact HO370.out) hg hat); have n2_ := Aside0.mk (hb); have n3_ := Aside0.mk (ho); clear BK367; clear HO370; clear HB; clear HO374; have BK367 := n0_; have HO370 := n1_; have HB := n2_; have HO377 := n3_; clear n0_ n1_ n2_ n3_; clear ho hb hg hat))
  go_loopg [10, 11] k (fun kq v10 v11 w' => ∃ (x10_1 : List Int) (x11_1 : Int), v11 = .int .i64 x11_1 ∧ Aside0 (chain_Message.l0 kq a1 t368 x10_1 x11_1 = some (r1, r2)) ∧ Aside0 (kq ≤ k) ∧ Aside0 (Kd.R (Kd.int .u8) 5 w' w.heap.size (fun k_ => some k_ ≠ (v10 : Value).ownBlock) v369 t368) ∧ Aside0 (Kd.R (Kd.int .u8) 5 w' w.heap.size (fun k_ => some k_ ≠ (v369 : Value).ownBlock) v10 x10_1) ∧ Aside0 (w'.heap[gb367]? = some (.cells #[.int .i64 a2_0, (.slice A2_1 l2_1.length c2_1)] 35 (0, 0))) ∧ Aside0 (Below w.heap.size w w'))
  case atStart => exact ⟨(y375), (56), (by (rfl)), H', ⟨Nat.le_refl _⟩, ⟨by exact Kd.R_mono HO370.out (fun _ hk => hk.2)⟩, ⟨by exact HO377.out⟩, ⟨by exact BK367.out⟩, ⟨HB.out⟩⟩
  clear H'
  try clear c4b0
  try clear c4b1
  try clear c6b0
  try clear c6b1
  try clear hcz9_0
  try clear hcz9_1
  try clear hfz9_0
  try clear hfz9_1
  obtain ⟨x10_1, x11_1, rfl, HA, HK1, HO_8, HO_10, BK367, HB⟩ := hrel
  rcases gk with _ | k1
  · exact absurd HA.out (by simp [chain_Message.l0])
  have H := HA.out
  clear HA
  simp only [chain_Message.l0] at H
  by_cases c14 : x11_1 ≥ 0
  rotate_left
  · rw [if_neg c14] at H
    have c14b0 : decide (0 ≤ x11_1) = false := decide_eq_false c14
    clear c14
    by_cases c19 : x10_1.length + t368.length < 140737488355328
    rotate_left
    · rw [if_neg c19] at H
      exact absurd H (by simp)
    rw [if_pos c19] at H
    have LMc19 := Aside0.mk c19
    clear c19
    obtain ⟨y381, hy381⟩ : ∃ y_ : List Int, y_ = (x10_1 ++ t368) := ⟨_, rfl⟩
    replace H : (some (y381, 0)) = some (r1, r2) := by (rw [hy381]; with_reducible exact H)
    have Ny381 := Aside0.mk hy381
    clear hy381
    simp only [Option.some.injEq, Prod.mk.injEq] at H
    obtain ⟨rfl, rfl⟩ := H
    obtain ⟨Ao21, co21, eo21⟩ := Kd.R_slice HO_8.out
    subst eo21
    go_wp2_with ((((with_reducible refine gate_builtin (b := .append) (xs := #[.tmp 37, .tmp 38]) rfl ?_); at_builtin; refine Kd.R_append_rows (Kd.int .u8) (w0 := w) w.heap.size rfl (.tmp 37) (.tmp 38) 22 5 (.int .u8 0) 1 rfl Try.underlying22 info5 rfl (by decide) (by omega) u10 x10_1 t368 _ _ _ (fun k_ => some k_ ≠ (.slice Ao21 t368.length co21 : Value).ownBlock) (fun _ => False) rfl rfl ?aO ?aR (fun _ _ h => h) (fun _ h => h.elim) ?aF ?aB ?aS ?aL ?_; (case aR => repeat ((exact (Kd.R_reads' HO_8.out).2.2))); (case aB => exact HB.out); (case aF => exact (fun k_ hk => Kd.fresh' (Kd.R_lt (by exact HO_8.out)) k_ hk)); (case aO => exact (by exact HO_10.out)); (case aS => exact (below_size HB.out)); (case aL => have := LMc19.out; omega); intro v382 w20 ho hb hg hat; rw [← Ny381.out] at ho; have n0_ := Aside0.mk (Kd.R_after (ok := (fun _ => True)) (by exact Kd.R_mono HO_8.out (fun _ hk => ⟨trivial, by (exact hk)⟩)) hg hat); have n1_ := Aside0.mk (blk_grown (g := gb367) (o := .cells #[.int .i64 a2_0, .slice A2_1 l2_1.length c2_1] 35 (0, 0)) (by exact BK367.out) hg (Kd.R_ne HO_10.out BK367.out (by decide))); have n2_ := Aside0.mk (hb); have n3_ := Aside0.mk (ho); clear HO_8; clear BK367; clear HB; clear HO_10; have HO_8 := n0_; have BK367 := n1_; have HB := n2_; have HO383 := n3_; clear n0_ n1_ n2_ n3_; clear ho hb hg hat)))
    go_ret2
    exact ⟨_, by (rfl), by exact Kd.R_mono HO383.out (fun _ hk => trivial), HB.out⟩
  rw [if_pos c14] at H
  have c14b0 : decide (0 ≤ x11_1) = true := decide_eq_true c14
  clear c14
  by_cases c15 : 0 ≤ x11_1
  rotate_left
  · rw [if_neg c15] at H
    exact absurd H (by simp)
  rw [if_pos c15] at H
  have c15b0 := eq_true c15
  have c15b1 : decide (0 ≤ x11_1) = true := decide_eq_true c15
  clear c15
  obtain ⟨ji16, hji16⟩ : ∃ j_ : Int, (shr .u64 a1 x11_1) = j_ := ⟨_, rfl⟩
  replace H : (if x10_1.length < 140737488355328 then (chain_Message.l0 k1 a1 t368 (x10_1 ++ [(ji16) % 256]) (wrap64 (x11_1 - 8))) else (none)) = some (r1, r2) := by (rw [hji16] at H; exact H)
  have hji16_ : (a1 / 2 ^ min x11_1.toNat 64) = ji16 := hji16
  have hji16z : x11_1 ≤ 64 → (a1 / 2 ^ x11_1.toNat) = ji16 := shr_small hji16
  by_cases c17 : x10_1.length < 140737488355328
  rotate_left
  · rw [if_neg c17] at H
    exact absurd H (by simp)
  rw [if_pos c17] at H
  have LMc17 := Aside0.mk c17
  clear c17
  obtain ⟨y378, hy378⟩ : ∃ y_ : List Int, y_ = (x10_1 ++ [(ji16) % 256]) := ⟨_, rfl⟩
  replace H : (chain_Message.l0 k1 a1 t368 y378 (wrap64 (x11_1 - 8))) = some (r1, r2) := by (rw [hy378]; with_reducible exact H)
  have Ny378 := Aside0.mk hy378
  clear hy378
  have H' := Aside0.mk H
  clear H
  go_wp2_with ((((with_reducible refine gate_builtin (b := .append) (xs := #[.tmp 30, .tmp 35]) rfl ?_); at_builtin; refine Kd.R_append (Kd.int .u8) (w0 := w) w.heap.size rfl (.tmp 30) (.tmp 35) 22 5 (.int .u8 0) 1 rfl Try.underlying22 info5 rfl (by decide) (by omega) u10 x10_1 ((ji16) % 256) [.int .u8 ((ji16) % 256)] (fun k_ => some k_ ≠ (v369 : Value).ownBlock) (fun _ => False) rfl rfl ?aP (fun _ hk => hk.elim) ?aF ?aO ?aB ?aS ?aL ?_; (case aP => exact rfl); (case aB => exact HB.out); (case aF => exact (fun k_ hk => Kd.fresh' (Kd.R_lt (by exact HO_8.out)) k_ hk)); (case aO => exact (by exact HO_10.out)); (case aS => exact (below_size HB.out)); (case aL => have := LMc17.out; omega); intro v379 w18 ho hb hg hat; rw [← Ny378.out] at ho; have n0_ := Aside0.mk (Kd.R_after (ok := (fun _ => True)) (by exact Kd.R_mono HO_8.out (fun _ hk => ⟨trivial, by (exact hk)⟩)) hg hat); have n1_ := Aside0.mk (blk_grown (g := gb367) (o := .cells #[.int .i64 a2_0, .slice A2_1 l2_1.length c2_1] 35 (0, 0)) (by exact BK367.out) hg (Kd.R_ne HO_10.out BK367.out (by decide))); have n2_ := Aside0.mk (hb); have n3_ := Aside0.mk (ho); clear HO_8; clear BK367; clear HB; clear HO_10; have HO_8 := n0_; have BK367 := n1_; have HB := n2_; have HO380 := n3_; clear n0_ n1_ n2_ n3_; clear ho hb hg hat)))
  go_roundg k1
  case measure => have := HK1.out; omega
  case rel => exact ⟨(y378), (wrap64 (x11_1 - 8)), (by (rfl)), H', ⟨by have := HK1.out; omega⟩, ⟨by exact Kd.R_mono HO_8.out (fun _ hk => hk.2)⟩, ⟨by exact HO380.out⟩, ⟨by exact BK367.out⟩, ⟨HB.out⟩⟩
-- NOT PRINTED: function 36 (journal_Journal_next)

-- NOT PRINTED: function 38 (journal_Journal_take)

-- NOT PRINTED: function 39 (device_Device_Cut)

-- NOT PRINTED: function 10 (journal_Open)

-- NOT PRINTED: function 11 (device_New)

-- NOT PRINTED: function 12 (journal_Journal_Log)

-- NOT PRINTED: function 14 (journal_Journal_Count)

-- NOT PRINTED: function 17 (device_Device_Append)

/-! ### slices_Grow_byte_byte: function 69 (given) -/
theorem slices_Grow_byte_byte.row (W : World) (base : Nat) (cs : Array Value) (G : Nat) (hb : base ≤ W.heap.size) (hG : G ≤ 9223372036854775807) (hs : cs.size = G) :
    Kd.R (Kd.int .u8) 5 (W.alloc (.cells cs 5)) base (fun _ => True) (.slice (some ⟨W.heap.size, 0, none⟩) 0 G) [] := by
  have h := World.ownsRow_lit (base := base) (e := 5) (size := 1) W cs G hb (by simpa [maxLen] using hG) (by simpa using hs)
  have h2 := own_take h (Nat.zero_le _)
  exact Kd.R_of_own (enc := Value.int .u8) (xs := []) (by simpa [encs] using h2) (fun _ _ => trivial)
set_option maxHeartbeats 4000000 in
set_option maxRecDepth 100000 in
theorem slices_Grow_byte_byte.calls (n : Nat) (h1 : 0 < n) (h2 : n < 100000000000000) (w : World) :
    Calls Try.prog 69 #[.slice none 0 0, .int .i64 (n : Int)] w fun e w' => ∃ v, e = .returned v ∧ Kd.R (Kd.int .u8) 5 w' w.heap.size (fun _ => True) v [] ∧ Below w.heap.size w w' := by
  obtain ⟨i0, hi0, hz0, hsz, hby⟩ := info_parts info5
  have hrz : ∀ ty, (Builtin.append_ #[22, 3] ty #[.slice none 0 0, .int .i64 (n : Int)]).run Try.prog w = .ok (.slice (some ⟨w.heap.size, 0, none⟩) n (grownCap w n 0 5)) (w.drew.alloc (.cells (#[] ++ Builtin.zeroCells (Value.int .u8 0).cells n ++ Builtin.zeroCells (Value.int .u8 0).cells (grownCap w n 0 5 - n)) 5)) := fun ty => by
    have h := Lib.run_append_grow_zeros w 22 3 ty 5 i0 (.int .u8 0) .i64 .i64 Try.underlying22 Try.underlying3 hi0 hz0 none 0 0 [] (by exact run_firstCells_none w.drew i0.size 0 0 0) n h1 (by omega) (by omega) (by omega) (by rw [hby]; omega)
      (by rw [Nat.zero_add, hby]; exact growslice_fits (by omega) (by omega))
    simpa using h
  have hGn : n ≤ grownCap w n 0 5 := grownCap_ge w _ _ _
  obtain ⟨G, hG⟩ : ∃ G, G = grownCap w n 0 5 := ⟨_, rfl⟩
  rw [← hG] at hrz hGn
  have hG63 : G ≤ 9223372036854775807 := by
    have := grownCap_le_maxLen w n 0 5 (by unfold maxLen; omega)
    rw [← hG] at this
    unfold maxLen at this
    omega
  clear hi0 hz0 hsz hby hG
  obtain ⟨cs, hcs⟩ : ∃ cs : Array Value, cs = #[] ++ Builtin.zeroCells (Value.int .u8 0).cells n ++ Builtin.zeroCells (Value.int .u8 0).cells (G - n) := ⟨_, rfl⟩
  have HCS : Aside0 (cs.size = G) := ⟨by rw [hcs]; simp [Builtin.zeroCells, Value.cells]; omega⟩
  rw [← hcs] at hrz
  clear hcs
  have hd : decide (0 < (n : Int)) = true := decide_eq_true (by omega)
  have hd2 : decide ((n : Int) < 0) = false := decide_eq_false (by omega)
  go_enter Try.func69, Try.ntmps69
  go_wp2_with (at_builtin; refine Lib.wpList_append_run _ rfl _ _ _ _ rfl _ _ rfl rfl _ _ (hrz _) ?_)
  go_ret
  exact ⟨_, rfl, slices_Grow_byte_byte.row w.drew w.heap.size cs G (Nat.le_refl _) hG63 HCS.out, below_alloc (below_drew (Below.refl _ _)) _⟩

/-! ### slices_Concat_byte_byte: function 58 (given) -/
def slices_Concat_byte_byte.f (ls : List (List Int)) : Option (List Int) := if 0 < ls.flatten.length ∧ ls.flatten.length < 10000000000000 ∧ ls.length < 1000000 then some ls.flatten else none
def slices_Concat_byte_byte.cat (ls : List (List Int)) (i : Nat) : List Int := (ls.take i).flatten
theorem slices_Concat_byte_byte.cat_succ (ls : List (List Int)) (i : Nat) (h : i < ls.length) : slices_Concat_byte_byte.cat ls (i + 1) = slices_Concat_byte_byte.cat ls i ++ ls.getD i [] := by
  unfold slices_Concat_byte_byte.cat
  rw [List.take_succ_eq_append_getElem h, List.flatten_append, List.getD_eq_getElem?_getD, List.getElem?_eq_getElem h]
  simp
theorem slices_Concat_byte_byte.cat_all (ls : List (List Int)) : slices_Concat_byte_byte.cat ls ls.length = ls.flatten := by
  unfold slices_Concat_byte_byte.cat
  rw [List.take_length]
theorem slices_Concat_byte_byte.cat_le (ls : List (List Int)) (i : Nat) : (slices_Concat_byte_byte.cat ls i).length ≤ ls.flatten.length := by
  unfold slices_Concat_byte_byte.cat
  have : ls.flatten = (ls.take i).flatten ++ (ls.drop i).flatten := by rw [← List.flatten_append, List.take_append_drop]
  rw [this, List.length_append]
  omega
theorem slices_Concat_byte_byte.elem {w : World} {A : Option Addr} {ls : List (List Int)} (h : Kd.C (Kd.slice 5 (Kd.int .u8)) w A ls.length ls) (i : Nat) (hi : i < ls.length) :
    ∃ ad Ai ci, A = some ad ∧ w.cell? (ad.add i) = some (.slice Ai (ls.getD i []).length ci) ∧ (ls.getD i []).length ≤ ci ∧ Kd.C (Kd.int .u8) w Ai (ls.getD i []).length (ls.getD i []) := by
  obtain ⟨ad, c, e, _, ⟨Ai, ci, rfl, hl, hg⟩, hc⟩ := Kd.C_get h [] (i : Int) (by omega) (by omega)
  refine ⟨ad, Ai, ci, e, ?_, hl, hg⟩
  have := hc 0 _ rfl
  simpa [Kd.slice] using this
set_option maxHeartbeats 8000000 in
set_option maxRecDepth 100000 in
theorem slices_Concat_byte_byte.calls (A0 : Option Addr) (c0 : Nat) (l0 : List (List Int)) (r : List Int) (w : World) (hr0 : Kd.C (Kd.slice 5 (Kd.int .u8)) w A0 l0.length l0) (hc0 : l0.length ≤ c0) (h : slices_Concat_byte_byte.f l0 = some r) :
    Calls Try.prog 58 #[.slice A0 l0.length c0] w fun e w' => ∃ v0_ : Value, e = .returned (v0_) ∧ Kd.R (Kd.int .u8) 5 w' w.heap.size (fun _ => True) v0_ r ∧ Below w.heap.size w w' := by
  unfold slices_Concat_byte_byte.f at h
  by_cases hl : 0 < l0.flatten.length ∧ l0.flatten.length < 10000000000000 ∧ l0.length < 1000000
  case neg => rw [if_neg hl] at h; exact absurd h (by simp)
  rw [if_pos hl] at h
  obtain rfl := Option.some.inj h
  obtain ⟨hl0, hl1, hl2⟩ := hl
  have HR := Aside0.mk hr0
  have HS := Aside0.mk (slices_Concat_byte_byte.cat_succ l0)
  have HA := Aside0.mk (slices_Concat_byte_byte.cat_all l0)
  have HLE := Aside0.mk (slices_Concat_byte_byte.cat_le l0)
  have h0 : 0 < l0.length := by
    rcases l0 with _ | ⟨x, l⟩
    · simp at hl0
    · simp
  obtain ⟨ad, _, _, rfl, _⟩ := slices_Concat_byte_byte.elem hr0 0 h0
  have HT := Aside0.mk (And.intro hl0 hl1)
  obtain ⟨tot, htot⟩ : ∃ tot, tot = l0.flatten := ⟨_, rfl⟩
  rw [← htot] at HA HLE HT ⊢
  clear hr0 hc0 h hl0 hl1 htot
  go_enter Try.func58, Try.ntmps58
  go_wp2
  go_loopg [3, 11] l0.length (fun q v3 v11 w' => ∃ j : Nat, v11 = .int .i64 (j : Int) ∧ v3 = .int .i64 ((slices_Concat_byte_byte.cat l0 j).length : Int) ∧ j + q = l0.length ∧ w' = w)
  case atStart => exact ⟨0, by go_num, by go_num, by omega, rfl⟩
  case round =>
    obtain ⟨j, rfl, rfl, hjq, rfl⟩ := hrel
    have hjle := HLE.out j
    cases gk with
    | zero =>
      obtain rfl : j = l0.length := by omega
      have hd : decide ((l0.length : Int) < (l0.length : Int)) = false := by simp
      rw [HA.out]
      clear hjle hjq hd
      have hd : decide ((l0.length : Int) < (l0.length : Int)) = false := by simp
      go_wp2_with (go_at_call 69; (with_reducible refine (slices_Grow_byte_byte.calls tot.length HT.out.1 (by have := HT.out.2; omega) _).mono ?_); rintro e w1 ⟨v1, rfl, ho1, hb1⟩; have HO1 := Aside0.mk ho1; have HB1 := Aside0.mk hb1; clear ho1 hb1)
      obtain ⟨wo, rfl⟩ : ∃ wo : World, wo = wr := ⟨_, rfl⟩
      go_loopg [6, 27] l0.length (fun q v6 v27 w' => ∃ (j : Nat) (A6 : Option Addr) (c6 : Nat), v27 = .int .i64 (j : Int) ∧ v6 = .slice A6 (slices_Concat_byte_byte.cat l0 j).length c6 ∧ j + q = l0.length ∧ Aside0 (Kd.R (Kd.int .u8) 5 w' wo.heap.size (fun _ => True) (.slice A6 (slices_Concat_byte_byte.cat l0 j).length c6) (slices_Concat_byte_byte.cat l0 j)) ∧ Aside0 (Below wo.heap.size wo w'))
      case atStart =>
        obtain ⟨A1, c1, e1⟩ := Kd.R_slice HO1.out
        exact ⟨0, A1, c1, by go_num, e1, by omega, ⟨by have := HO1.out; rw [e1] at this; exact this⟩, HB1⟩
      case round =>
        clear HO1 HB1
        obtain ⟨j, A6, c6, rfl, rfl, hjq, HO, HB⟩ := hrel
        have hjle := HLE.out j
        cases gk with
        | zero =>
          obtain rfl : j = l0.length := by omega
          go_wp2
          go_ret
          exact ⟨_, rfl, by have := HO.out; rw [HA.out] at this ⊢; exact this, HB.out⟩
        | succ q =>
          have hj : (j : Int) < (l0.length : Int) := by omega
          have hj2 : j < l0.length := by omega
          have hdj : decide ((j : Int) < (l0.length : Int)) = true := decide_eq_true hj
          obtain ⟨ad', Ai, ci, hA, e0, hci, hg⟩ := slices_Concat_byte_byte.elem HR.out j hj2
          obtain rfl := Option.some.inj hA
          have e1 := pw_cell_below HB.out e0
          have HG := Aside0.mk (Kd.C_below hg HB.out)
          have hsucc := HS.out j hj2
          have hjle2 := HLE.out (j + 1)
          have hT := HT.out.2
          have hbd : (slices_Concat_byte_byte.cat l0 j).length + (l0.getD j []).length ≤ tot.length := by
            have := congrArg List.length hsucc
            rw [List.length_append] at this
            omega
          have HBD : Aside0 (((slices_Concat_byte_byte.cat l0 j).length + (l0.getD j []).length) * 1 ≤ 140737488355328) := ⟨by omega⟩
          have HSU := Aside0.mk hsucc
          clear hsucc hjle2 hA hd hci hg e0 hjle hbd
          generalize slices_Concat_byte_byte.cat l0 j = cj at *
          generalize l0.getD j [] = x at *
          have hw2 : IntKind.i64.wrap ((j : Int) + 1) = (j : Int) + 1 := IntWalk.i64_in _ (by omega)
          go_wp2_with ((with_reducible refine gate_builtin (b := .append) (xs := #[.tmp 31, .tmp 32]) rfl ?_); at_builtin; refine Kd.R_append_rows (Kd.int .u8) (w0 := wo) wo.heap.size rfl (.tmp 31) (.tmp 32) 22 5 (.int .u8 0) 1 rfl Try.underlying22 info5 rfl (by decide) (by omega) (.slice A6 cj.length c6) cj x _ _ _ (fun _ => True) (fun _ => False) rfl rfl HO.out HG.out (fun _ _ h => h) (fun _ h => h.elim) (fun _ _ => trivial) HB.out HB.out.size HBD.out ?_; intro v7 w7 ho7 hb7 hg7 hat7; obtain ⟨A7, c7, rfl⟩ := Kd.R_slice ho7; have HO7 := Aside0.mk ho7; have HB7 := Aside0.mk hb7; clear ho7 hb7 hg7 hat7)
          go_roundg q
          case measure => omega
          case rel => exact ⟨j + 1, A7, c7, by go_num, by rw [HSU.out]; (simp), by omega, by rw [HSU.out]; exact HO7, HB7⟩
    | succ q =>
      have hj : (j : Int) < (l0.length : Int) := by omega
      have hj2 : j < l0.length := by omega
      have hd : decide ((j : Int) < (l0.length : Int)) = true := decide_eq_true hj
      obtain ⟨ad', Ai, ci, hA, e0, hci, hg⟩ := slices_Concat_byte_byte.elem HR.out j hj2
      obtain rfl := Option.some.inj hA
      have hsucc := HS.out j hj2
      have hjle2 := HLE.out (j + 1)
      have hsl : (slices_Concat_byte_byte.cat l0 (j + 1)).length = (slices_Concat_byte_byte.cat l0 j).length + (l0.getD j []).length := by rw [hsucc, List.length_append]
      have hT := HT.out.2
      have hbd : (slices_Concat_byte_byte.cat l0 j).length + (l0.getD j []).length ≤ tot.length := by omega
      have HSL := Aside0.mk hsl
      clear hsucc hsl hjle2
      generalize slices_Concat_byte_byte.cat l0 j = cj at *
      generalize l0.getD j [] = x at *
      have hw1 : IntKind.i64.wrap ((cj.length : Int) + (x.length : Int)) = (cj.length : Int) + (x.length : Int) := IntWalk.i64_in _ (by omega)
      have hw2 : IntKind.i64.wrap ((j : Int) + 1) = (j : Int) + 1 := IntWalk.i64_in _ (by omega)
      have hneg : decide ((cj.length : Int) + (x.length : Int) < 0) = false := decide_eq_false (by omega)
      clear hg hci hjle
      go_wp2
      go_roundg q
      case measure => omega
      case rel => exact ⟨j + 1, by go_num, by rw [HSL.out]; go_num, by omega, rfl⟩

/-! ### entry_Frame: function 41 (given) -/
def entry_Frame.f (a0 : Int) (l0 l1 : List Int) : Option (List Int × Int) :=
  (entry_Payload.f a0 l0).bind fun p => if p.2 = 0 then (if l1.length = 32 then (if p.1.length < 100000 then some (entry_length.bytes (p.1.length : Int) ++ p.1 ++ l1, 0) else none) else some ([], 2)) else some ([], p.2)
theorem entry_Frame.blk_C {W : World} {g : Nat} {T : TypeId} {l : List Int} (h : W.heap[g]? = some (.cells (nums .u8 l).toArray T (0, 0))) (hl : l.length ≤ 1000) : Kd.C (Kd.int .u8) W (some ⟨g, 0, none⟩) l.length l := by
  refine Kd.C_of_reads (d := (0 : Int)) (h1 := fun _ => rfl) ⟨rfl, by omega, fun _ => ⟨_, rfl, fun j hj => ?_⟩⟩
  rw [add_plain, blk_cell h]
  simp [nums, List.getElem?_eq_getElem hj, List.getD_eq_getElem?_getD]
theorem entry_Frame.lit3 {W : World} {g : Nat} {T : TypeId} {A0 A1 A2 : Option Addr} {c0 c1 c2 : Nat} {l0 l1 l2 : List Int} (h : W.heap[g]? = some (.cells #[.slice A0 l0.length c0, .slice A1 l1.length c1, .slice A2 l2.length c2] T (0, 0)))
    (h0 : Kd.C (Kd.int .u8) W A0 l0.length l0) (h1 : Kd.C (Kd.int .u8) W A1 l1.length l1) (h2 : Kd.C (Kd.int .u8) W A2 l2.length l2) (k0 : l0.length ≤ c0) (k1 : l1.length ≤ c1) (k2 : l2.length ≤ c2) :
    Kd.C (Kd.slice 5 (Kd.int .u8)) W (some ⟨g, 0, none⟩) [l0, l1, l2].length [l0, l1, l2] := by
  refine ⟨rfl, by simp, fun _ => ⟨_, rfl, fun j p hj => ?_⟩⟩
  match j, hj with
  | 0, hj =>
    obtain rfl : l0 = p := by simpa using hj
    exact ⟨_, rfl, ⟨A0, c0, rfl, k0, h0⟩, fun i u hu => by
      match i, hu with
      | 0, hu =>
        obtain rfl : Value.slice A0 l0.length c0 = u := by simpa using hu
        rw [add_plain, blk_cell h]; rfl⟩
  | 1, hj =>
    obtain rfl : l1 = p := by simpa using hj
    exact ⟨_, rfl, ⟨A1, c1, rfl, k1, h1⟩, fun i u hu => by
      match i, hu with
      | 0, hu =>
        obtain rfl : Value.slice A1 l1.length c1 = u := by simpa using hu
        rw [add_plain, blk_cell h]; rfl⟩
  | 2, hj =>
    obtain rfl : l2 = p := by simpa using hj
    exact ⟨_, rfl, ⟨A2, c2, rfl, k2, h2⟩, fun i u hu => by
      match i, hu with
      | 0, hu =>
        obtain rfl : Value.slice A2 l2.length c2 = u := by simpa using hu
        rw [add_plain, blk_cell h]; rfl⟩
theorem entry_length.lit (n : Nat) (hn : n < 100000) (w : World) :
    Calls Try.prog 57 #[.int .i64 (n : Int)] w fun e w' => e = .returned (.agg #[.int .u8 ((n : Int) / 16777216), .int .u8 ((n : Int) / 65536), .int .u8 ((n : Int) / 256 % 256), .int .u8 ((n : Int) % 256)]) ∧ Below w.heap.size w w' := entry_length.calls n hn w
theorem entry_Frame.cat (w2 : World) (T T' : TypeId) (n : Int) (A2 : Option Addr) (c2 : Nat) (p : List Int) (A1 : Option Addr) (c1 : Nat) (l1 r : List Int) (hp : Kd.C (Kd.int .u8) w2 A2 p.length p) (hcp : p.length ≤ c2) (hl : Kd.C (Kd.int .u8) w2 A1 l1.length l1) (hcl : l1.length ≤ c1) (h : slices_Concat_byte_byte.f [entry_length.bytes n, p, l1] = some r) :
    Calls Try.prog 58 #[.slice (some ⟨w2.heap.size + 1, 0, none⟩) 3 3] ((w2.alloc (.cells #[.int .u8 (n / 16777216), .int .u8 (n / 65536), .int .u8 (n / 256 % 256), .int .u8 (n % 256)] T)).alloc (.cells #[.slice (some ⟨w2.heap.size, 0, none⟩) 4 4, .slice A2 p.length c2, .slice A1 l1.length c1] T'))
      fun e w' => ∃ v0_ : Value, e = .returned (v0_) ∧ Kd.R (Kd.int .u8) 5 w' w2.heap.size (fun _ => True) v0_ r ∧ Below w2.heap.size w2 w' := by
  have hb := blk_new w2 (.cells #[.int .u8 (n / 16777216), .int .u8 (n / 65536), .int .u8 (n / 256 % 256), .int .u8 (n % 256)] T)
  have h1 : Kd.C (Kd.int .u8) (w2.alloc (.cells #[.int .u8 (n / 16777216), .int .u8 (n / 65536), .int .u8 (n / 256 % 256), .int .u8 (n % 256)] T)) (some ⟨w2.heap.size, 0, none⟩) (entry_length.bytes n).length (entry_length.bytes n) := entry_Frame.blk_C hb (by simp [entry_length.bytes])
  have h2 := blk_new (w2.alloc (.cells #[.int .u8 (n / 16777216), .int .u8 (n / 65536), .int .u8 (n / 256 % 256), .int .u8 (n % 256)] T)) (.cells #[.slice (some ⟨w2.heap.size, 0, none⟩) 4 4, .slice A2 p.length c2, .slice A1 l1.length c1] T')
  rw [show (w2.alloc (.cells #[.int .u8 (n / 16777216), .int .u8 (n / 65536), .int .u8 (n / 256 % 256), .int .u8 (n % 256)] T)).heap.size = w2.heap.size + 1 by simp] at h2
  have h3 := entry_Frame.lit3 (l0 := entry_length.bytes n) (c0 := 4) h2 (Kd.C_alloc h1 _) (Kd.C_alloc (Kd.C_alloc hp _) _) (Kd.C_alloc (Kd.C_alloc hl _) _) (by simp [entry_length.bytes]) hcp hcl
  refine (slices_Concat_byte_byte.calls (some ⟨w2.heap.size + 1, 0, none⟩) 3 [entry_length.bytes n, p, l1] r _ h3 (by simp) h).mono ?_
  rintro e w' ⟨v, rfl, ho, hbb⟩
  exact ⟨v, rfl, Kd.R_lower ho (by simp; omega), below_step (below_alloc (below_alloc (Below.refl _ _) _) _) hbb⟩
set_option maxHeartbeats 8000000 in
set_option maxRecDepth 100000 in
theorem entry_Frame.calls (a0_0 : Int) (A0_1 : Option Addr) (c0_1 : Nat) (l0_1 : List Int) (A1 : Option Addr) (c1 : Nat) (l1 : List Int) (r1 : List Int) (r2 : Int) (w : World) (hr0_1 : Kd.C (Kd.int .u8) w A0_1 l0_1.length l0_1) (hc0_1 : l0_1.length ≤ c0_1) (hr1 : Kd.C (Kd.int .u8) w A1 l1.length l1) (hc1 : l1.length ≤ c1) (h : entry_Frame.f a0_0 l0_1 l1 = some (r1, r2)) :
    Calls Try.prog 41 #[.agg #[.int .i64 a0_0, .slice A0_1 l0_1.length c0_1], .slice A1 l1.length c1] w fun e w' => ∃ v0_ : Value, e = .returned (.tuple #[v0_, .int .i64 r2]) ∧ Kd.R (Kd.int .u8) 5 w' w.heap.size (fun _ => True) v0_ r1 ∧ Below w.heap.size w w' := by
  have HR0 := Aside0.mk hr0_1
  have HC0 := Aside0.mk hc0_1
  have HR1 := Aside0.mk hr1
  have HC1 := Aside0.mk hc1
  unfold entry_Frame.f at h
  obtain ⟨⟨p, x⟩, hp, h2⟩ := Option.bind_eq_some_iff.mp h
  have HP := Aside0.mk hp
  clear hr0_1 hc0_1 hr1 hc1 h hp
  simp only at h2
  by_cases hx : x = 0
  · subst hx
    rw [if_pos rfl] at h2
    by_cases hl : l1.length = 32
    · rw [if_pos hl] at h2
      by_cases hpl : p.length < 100000
      case neg => rw [if_neg hpl] at h2; exact absurd h2 (by simp)
      rw [if_pos hpl] at h2
      simp only [Option.some.injEq, Prod.mk.injEq] at h2
      obtain ⟨hr, rfl⟩ := h2
      have hb : ((l1.length : Int) != 32) = false := by rw [hl]; rfl
      have hb2 : (l1.length != 32) = false := by rw [hl]; rfl
      have HPL := Aside0.mk hpl
      have HCAT : Aside0 (slices_Concat_byte_byte.f [entry_length.bytes (p.length : Int), p, l1] = some r1) := ⟨by
        unfold slices_Concat_byte_byte.f
        rw [if_pos (by simp [entry_length.bytes]; omega), ← hr]
        simp⟩
      clear hr hpl hl
      go_enter Try.func41, Try.ntmps41
      go_wp2_with (first | (go_at_call 56; (with_reducible refine (entry_Payload.calls a0_0 A0_1 c0_1 l0_1 p 0 _ (Kd.C_alloc HR0.out _) HC0.out HP.out).mono ?_); rintro e w1 ⟨v1, rfl, ho1, hb1⟩; (obtain ⟨A2, c2, rfl⟩ := Kd.R_slice ho1); (have HO1 := Aside0.mk (Kd.R_reads' ho1)); (have HB1 : Aside0 (Below w.heap.size w w1) := ⟨below_step (below_alloc (Below.refl _ _) _) hb1⟩); clear ho1 hb1) | (go_at_call 57; (with_reducible refine (entry_length.lit p.length HPL.out _).mono ?_); rintro e w2 ⟨rfl, hb2⟩; (have HB2 : Aside0 (Below w.heap.size w w2) := ⟨below_step HB1.out hb2⟩); (have HO2 : Aside0 (Kd.C (Kd.int .u8) w2 A2 p.length p) := ⟨Kd.C_below HO1.out.2.2 hb2⟩); clear hb2) | (go_at_call 58; (with_reducible refine (entry_Frame.cat w2 _ _ (p.length : Int) A2 c2 p A1 c1 l1 r1 HO2.out HO1.out.2.1 (Kd.C_below HR1.out HB2.out) HC1.out HCAT.out).mono ?_); rintro e w3 ⟨v3, rfl, ho3, hb3⟩; (have HO3 : Aside0 (Kd.R (Kd.int .u8) 5 w3 w.heap.size (fun _ => True) v3 r1) := ⟨Kd.R_lower ho3 HB2.out.size⟩); (have HB3 : Aside0 (Below w.heap.size w w3) := ⟨below_step HB2.out hb3⟩); clear ho3 hb3))
      go_ret2
      exact ⟨_, rfl, HO3.out, HB3.out⟩
    · rw [if_neg hl] at h2
      simp only [Option.some.injEq, Prod.mk.injEq] at h2
      obtain ⟨rfl, rfl⟩ := h2
      have hb : ((l1.length : Int) != 32) = true := by simp; omega
      have hb2 : (l1.length != 32) = true := by simp; omega
      clear hl
      go_enter Try.func41, Try.ntmps41
      go_wp2_with (((go_at_call 56; (with_reducible refine (entry_Payload.calls a0_0 A0_1 c0_1 l0_1 p 0 _ (Kd.C_alloc HR0.out _) HC0.out HP.out).mono ?_); rintro e w1 ⟨v1, rfl, ho1, hb1⟩; (obtain ⟨A2, c2, rfl⟩ := Kd.R_slice ho1); (have HB1 : Aside0 (Below w.heap.size w w1) := ⟨below_step (below_alloc (Below.refl _ _) _) hb1⟩); clear ho1 hb1)))
      go_ret2
      exact ⟨_, rfl, Kd.R_nil _ _ _ _ _, HB1.out⟩
  · rw [if_neg hx] at h2
    simp only [Option.some.injEq, Prod.mk.injEq] at h2
    obtain ⟨rfl, rfl⟩ := h2
    have hb : (x != 0) = true := by simpa using hx
    clear hx
    go_enter Try.func41, Try.ntmps41
    go_wp2_with (((go_at_call 56; (with_reducible refine (entry_Payload.calls a0_0 A0_1 c0_1 l0_1 p x _ (Kd.C_alloc HR0.out _) HC0.out HP.out).mono ?_); rintro e w1 ⟨v1, rfl, ho1, hb1⟩; (obtain ⟨A2, c2, rfl⟩ := Kd.R_slice ho1); (have HB1 : Aside0 (Below w.heap.size w w1) := ⟨below_step (below_alloc (Below.refl _ _) _) hb1⟩); clear ho1 hb1)))
    go_ret2
    exact ⟨_, rfl, Kd.R_nil _ _ _ _ _, HB1.out⟩

-- NOT PRINTED: function 15 (journal_Journal_Append)

-- NOT PRINTED: function 9 (notarylaw49_awake)

/-! ### notaryref48_Between: function 42 -/
def notaryref48_Between.f (a0 : Int) (a1 : Int) : Option (Int) := if a0 < 0 then (some 0) else (if a0 > a1 then (some a1) else (some a0))
set_option maxHeartbeats 8000000 in
set_option maxRecDepth 100000 in
theorem notaryref48_Between.calls (a0 : Int) (a1 : Int) (r : Int) (w : World) (h : notaryref48_Between.f a0 a1 = some r) :
    Calls Try.prog 42 #[.int .i64 a0, .int .i64 a1] w fun e w' => e = .returned (.int .i64 r) ∧ Drawn0 w w' := by
  have H : (if a0 < 0 then (some 0) else (if a0 > a1 then (some a1) else (some a0))) = some r := h
  clear h
  by_cases c3 : a0 < 0
  · rw [if_pos c3] at H
    have c3b0 : decide (a0 < 0) = true := decide_eq_true c3
    clear c3
    obtain rfl := Option.some.inj H
    go_enter Try.func42, Try.ntmps42
    go_wp2
    go_ret
    exact ⟨by (rfl), by repeat (exact Drawn0.refl _)⟩
  rw [if_neg c3] at H
  have c3b0 : decide (a0 < 0) = false := decide_eq_false c3
  clear c3
  by_cases c4 : a0 > a1
  · rw [if_pos c4] at H
    have c4b0 : decide (a1 < a0) = true := decide_eq_true c4
    clear c4
    obtain rfl := Option.some.inj H
    go_enter Try.func42, Try.ntmps42
    go_wp2
    go_ret
    exact ⟨by (rfl), by repeat (exact Drawn0.refl _)⟩
  rw [if_neg c4] at H
  have c4b0 : decide (a1 < a0) = false := decide_eq_false c4
  clear c4
  obtain rfl := Option.some.inj H
  go_enter Try.func42, Try.ntmps42
  go_wp2
  go_ret
  exact ⟨by (rfl), by repeat (exact Drawn0.refl _)⟩

/-! ### notaryref48_New: function 19 -/
def notaryref48_New.f (a0 : Int) : Option (Int × Int × List Int) := (notaryref48_Between.f a0 65536).bind fun t387 => (some (t387, 0, ([] : List Int)))
set_option maxHeartbeats 8000000 in
set_option maxRecDepth 100000 in
theorem notaryref48_New.calls (a0 : Int) (r1 : Int) (r2 : Int) (r3 : List Int) (w : World) (h : notaryref48_New.f a0 = some (r1, r2, r3)) :
    Calls Try.prog 19 #[.int .i64 a0] w fun e w' => ∃ v2_ : Value, e = .returned (.agg #[.int .i64 r1, .int .i64 r2, v2_]) ∧ Kd.R (Kd.int .u8) 5 w' w.heap.size (fun _ => True) v2_ r3 ∧ Below w.heap.size w w' := by
  have hu40 := Try.underlying40
  have HB := Aside0.mk (Below.refl w.heap.size w)
  have H : ((notaryref48_Between.f a0 65536).bind fun t387 => (some (t387, 0, ([] : List Int)))) = some (r1, r2, r3) := h
  clear h
  replace H := Option.bind_eq_some_iff.mp H
  obtain ⟨t387, A20, H⟩ := H
  replace H : (some (t387, 0, ([] : List Int))) = some (r1, r2, r3) := H
  have A2 := Aside0.mk A20
  clear A20
  simp only [Option.some.injEq, Prod.mk.injEq] at H
  obtain ⟨rfl, rfl, rfl⟩ := H
  go_enter Try.func19, Try.ntmps19
  go_wp2_with (first | ((with_reducible refine gate_dst (N := 2) rfl ?_); refine box_event ?hg (N := 2) ?hd (cs := #[.int .i64 0, .int .i64 0, .slice none 0 0]) (t := 40) ?hr ?_; (case hd => rfl); (case hg => rfl); (case hr => (go_simp; done)); intro gb386 hg w3 hbox hb; have n0_ := Aside0.mk (below_step HB.out hb); have n1_ := Aside0.mk (hbox); have n2_ := Aside0.mk ((by rw [hg]; exact (below_size HB.out) : w.heap.size ≤ gb386)); have n3_ := Aside0.mk ((by rw [hg]; exact (below_size HB.out) : w.heap.size ≤ gb386)); clear HB; have HB := n0_; have BK386 := n1_; have GW386 := n2_; have GE386 := n3_; clear n0_ n1_ n2_ n3_; clear hb hbox hg) | ((with_reducible refine gate_callee (f := 42) rfl ?_); refine goesL_ (some 4) rfl rfl Try.func42 (by kernel_rfl) rfl #[.int .i64 a0, .int .i64 65536] rfl (by (try simp only [List.map_toArray, List.map_cons, List.map_nil]); (rfl)) ?_; (with_reducible refine (notaryref48_Between.calls a0 65536 t387 _ A2.out).mono ?_); rintro e w' ⟨rfl, ⟨nd, rfl⟩⟩; refine ⟨_, rfl, ?_⟩; (try (rw [drewN_self w3]; generalize hq_ : World.drewN w3 _ = w3; have n0_ : Aside0 (w3.heap[gb386]? = some (.cells #[.int .i64 0, .int .i64 0, .slice none 0 0] 40 (0, 0))) := ⟨by rw [← hq_]; exact (by (with_reducible repeat (refine blk_drewN ?_ _)); exact BK386.out)⟩; have n1_ : Aside0 (Below w.heap.size w w3) := ⟨by rw [← hq_]; exact (by repeat (with_reducible first | exact HB.out | apply pw_below_drewN))⟩; clear BK386 HB hq_; have BK386 := n0_; have HB := n1_; clear n0_ n1_)); have hcz4_0 : w3.cell? ⟨gb386, 0, none⟩ = some (.int .i64 0) := (blk_cell BK386.out 0).trans rfl; have hcz4_1 : w3.cell? ⟨gb386, 1, none⟩ = some (.int .i64 0) := (blk_cell BK386.out 1).trans rfl; have hcz4_2 : w3.cell? ⟨gb386, 2, none⟩ = some (.slice none 0 0) := (blk_cell BK386.out 2).trans rfl; have hfz4_0 := blk_frozen BK386.out 0; have hfz4_1 := blk_frozen BK386.out 1; have hfz4_2 := blk_frozen BK386.out 2))
  refine bodyPost_ret (results_cell_row rfl _ _ gb386 40 #[.int .i64 t387, .int .i64 0, .slice none 0 0] (0, 0) _ rfl (by refine blk_put (cs := #[.int .i64 t387, .int .i64 0, .slice none 0 0]) ?_ 2 _ rfl; refine blk_put (cs := #[.int .i64 t387, .int .i64 0, .slice none 0 0]) ?_ 1 _ rfl; refine blk_put (cs := #[.int .i64 0, .int .i64 0, .slice none 0 0]) ?_ 0 _ rfl; exact BK386.out) Try.underlying40 rfl (by kernel_rfl)) rfl ?_
  exact ⟨_, by (rfl), by (exact Kd.R_nil _ _ _ _ _), by repeat (with_reducible first | exact HB.out | refine below_set ?_ GE386.out)⟩

-- NOT PRINTED: function 13 (journal_Journal_Tag)

/-! ### notaryref01_Same: function 16 -/
def notaryref01_Same.l0 : Nat → List Int → List Int → Int → Option (Bool)
  | 0, _, _, _ => none
  | k + 1, x0, x1, x5 => if x5 < (x0.length : Int) then (if 0 ≤ x5 then (if x5 < (x1.length : Int) then (if (rd x0 x5) = (rd x1 x5) then (notaryref01_Same.l0 k x0 x1 (wrap64 (x5 + 1))) else (some false)) else (none)) else (none)) else (some true)
def notaryref01_Same.f (k : Nat) (l0 : List Int) (l1 : List Int) : Option (Bool) := if (l0.length : Int) = (l1.length : Int) then (notaryref01_Same.l0 k l0 l1 0) else (some false)
set_option maxHeartbeats 8000000 in
set_option maxRecDepth 100000 in
theorem notaryref01_Same.calls (k : Nat) (A0 : Option Addr) (c0 : Nat) (l0 : List Int) (A1 : Option Addr) (c1 : Nat) (l1 : List Int) (r : Bool) (w : World) (hr0 : Kd.C (Kd.int .u8) w A0 l0.length l0) (hc0 : l0.length ≤ c0) (hr1 : Kd.C (Kd.int .u8) w A1 l1.length l1) (hc1 : l1.length ≤ c1) (h : notaryref01_Same.f k l0 l1 = some r) :
    Calls Try.prog 16 #[.slice A0 l0.length c0, .slice A1 l1.length c1] w fun e w' => e = .returned (.bool r) ∧ Drawn0 w w' := by
  have HR0 := Aside0.mk hr0
  have HC0 := Aside0.mk hc0
  clear hr0 hc0
  have HR1 := Aside0.mk hr1
  have HC1 := Aside0.mk hc1
  clear hr1 hc1
  have H : (if (l0.length : Int) = (l1.length : Int) then (notaryref01_Same.l0 k l0 l1 0) else (some false)) = some r := h
  clear h
  by_cases c3 : (l0.length : Int) = (l1.length : Int)
  rotate_left
  · rw [if_neg c3] at H
    have c3b0 : ((l0.length : Int) == (l1.length : Int)) = false := beq_eq_false_iff_ne.mpr c3
    have c3b1 : ((l0.length : Int) != (l1.length : Int)) = true := bne_iff_ne.mpr c3
    have c3b2 : (l0.length == l1.length) = false := by (simp at c3 ⊢; omega)
    obtain rfl := Option.some.inj H
    go_enter Try.func16, Try.ntmps16
    go_wp2
    repeat (go_quiet (fail); skip)
    go_ret
    exact ⟨by (rfl), by repeat (exact Drawn0.refl _)⟩

  rw [if_pos c3] at H
  have c3b0 : ((l0.length : Int) == (l1.length : Int)) = true := beq_iff_eq.mpr c3
  have c3b1 : ((l0.length : Int) != (l1.length : Int)) = false := bne_eq_false_iff_eq.mpr c3
  have c3b2 : (l0.length == l1.length) = true := by (simp at c3 ⊢; omega)
  clear c3
  have H' := Aside0.mk H
  clear H
  go_enter Try.func16, Try.ntmps16
  go_wp2
  repeat (go_quiet (fail); skip)
  go_loopg [5] k (fun kq v5 w' => ∃ (x5_1 : Int), v5 = .int .i64 x5_1 ∧ Aside0 (notaryref01_Same.l0 kq l0 l1 x5_1 = some r) ∧ Aside0 (kq ≤ k) ∧ Drawn0 w w')
  case atStart => exact ⟨(0), (by (rfl)), H', ⟨Nat.le_refl _⟩, by repeat (exact Drawn0.refl _)⟩
  clear H'
  try clear c3b0
  try clear c3b1
  try clear c3b2
  obtain ⟨x5_1, rfl, HA, HK1, ⟨m1, rfl⟩⟩ := hrel
  rcases gk with _ | k1
  · exact absurd HA.out (by simp [notaryref01_Same.l0])
  have H := HA.out
  clear HA
  simp only [notaryref01_Same.l0] at H
  by_cases c4 : x5_1 < (l0.length : Int)
  rotate_left
  · rw [if_neg c4] at H
    have c4b0 : decide (x5_1 < (l0.length : Int)) = false := decide_eq_false c4
    clear c4
    obtain rfl := Option.some.inj H
    go_wp2
    repeat (go_quiet (fail); skip)
    go_ret
    exact ⟨by (rfl), by repeat (first | exact Drawn0.refl _ | apply Drawn0.step)⟩
  rw [if_pos c4] at H
  have c4b0 : decide (x5_1 < (l0.length : Int)) = true := decide_eq_true c4
  clear c4
  by_cases c5 : 0 ≤ x5_1
  rotate_left
  · rw [if_neg c5] at H
    exact absurd H (by simp)
  rw [if_pos c5] at H
  have c5b0 : decide (0 ≤ x5_1) = true := decide_eq_true c5
  clear c5
  by_cases c6 : x5_1 < (l1.length : Int)
  rotate_left
  · rw [if_neg c6] at H
    exact absurd H (by simp)
  rw [if_pos c6] at H
  have c6b0 : decide (x5_1 < (l1.length : Int)) = true := decide_eq_true c6
  clear c6
  by_cases c7 : (rd l0 x5_1) = (rd l1 x5_1)
  rotate_left
  · rw [if_neg c7] at H
    have c7b0 : ((rd l0 x5_1) == (rd l1 x5_1)) = false := beq_eq_false_iff_ne.mpr c7
    have c7b1 : ((rd l0 x5_1) != (rd l1 x5_1)) = true := bne_iff_ne.mpr c7
    obtain rfl := Option.some.inj H
    have p388 : 0 ≤ (x5_1 : Int) := of_decide_eq_true (by (with_reducible assumption))
    have q388 : x5_1 < (l0.length : Int) := of_decide_eq_true (by (with_reducible assumption))
    obtain ⟨ad388, e388, hx388_0⟩ := Kd.at_int HR0.out x5_1 p388 q388
    cases e388
    replace p388 := eq_true p388
    replace q388 := eq_true q388
    have p389 : 0 ≤ (x5_1 : Int) := of_decide_eq_true (by (with_reducible assumption))
    have q389 : x5_1 < (l1.length : Int) := of_decide_eq_true (by (with_reducible assumption))
    obtain ⟨ad389, e389, hx389_0⟩ := Kd.at_int HR1.out x5_1 p389 q389
    cases e389
    replace p389 := eq_true p389
    replace q389 := eq_true q389
    go_wp2
    repeat (go_quiet (fail); try go_wp2)
    go_ret
    exact ⟨by (rfl), by repeat (first | exact Drawn0.refl _ | apply Drawn0.step)⟩
  rw [if_pos c7] at H
  have c7b0 : ((rd l0 x5_1) == (rd l1 x5_1)) = true := beq_iff_eq.mpr c7
  have c7b1 : ((rd l0 x5_1) != (rd l1 x5_1)) = false := bne_eq_false_iff_eq.mpr c7
  clear c7
  have H' := Aside0.mk H
  clear H
  have p388 : 0 ≤ (x5_1 : Int) := of_decide_eq_true (by (with_reducible assumption))
  have q388 : x5_1 < (l0.length : Int) := of_decide_eq_true (by (with_reducible assumption))
  obtain ⟨ad388, e388, hx388_0⟩ := Kd.at_int HR0.out x5_1 p388 q388
  cases e388
  replace p388 := eq_true p388
  replace q388 := eq_true q388
  have p389 : 0 ≤ (x5_1 : Int) := of_decide_eq_true (by (with_reducible assumption))
  have q389 : x5_1 < (l1.length : Int) := of_decide_eq_true (by (with_reducible assumption))
  obtain ⟨ad389, e389, hx389_0⟩ := Kd.at_int HR1.out x5_1 p389 q389
  cases e389
  replace p389 := eq_true p389
  replace q389 := eq_true q389
  go_wp2
  repeat (go_quiet (fail); try go_wp2)
  go_roundg k1
  case measure => have := HK1.out; omega
  case rel => exact ⟨(wrap64 (x5_1 + 1)), (by (rfl)), H', ⟨by have := HK1.out; omega⟩, by repeat (first | exact Drawn0.refl _ | apply Drawn0.step)⟩
-- NOT PRINTED: function 25 (journal_Journal_Entries)

/-! ### notaryref46_Same: function 51 -/
def notaryref46_Same.f (k : Nat) (a0_0 : Int) (l0_1 : List Int) (a1_0 : Int) (l1_1 : List Int) : Option (Bool) := if a0_0 = a1_0 then ((notaryref01_Same.f k l0_1 l1_1).bind fun t392 => (some t392)) else (some false)
set_option maxHeartbeats 8000000 in
set_option maxRecDepth 100000 in
theorem notaryref46_Same.calls (k : Nat) (a0_0 : Int) (A0_1 : Option Addr) (c0_1 : Nat) (l0_1 : List Int) (a1_0 : Int) (A1_1 : Option Addr) (c1_1 : Nat) (l1_1 : List Int) (r : Bool) (w : World) (hr0_1 : Kd.C (Kd.int .u8) w A0_1 l0_1.length l0_1) (hc0_1 : l0_1.length ≤ c0_1) (hr1_1 : Kd.C (Kd.int .u8) w A1_1 l1_1.length l1_1) (hc1_1 : l1_1.length ≤ c1_1) (h : notaryref46_Same.f k a0_0 l0_1 a1_0 l1_1 = some r) :
    Calls Try.prog 51 #[.agg #[.int .i64 a0_0, .slice A0_1 l0_1.length c0_1], .agg #[.int .i64 a1_0, .slice A1_1 l1_1.length c1_1]] w fun e w' => e = .returned (.bool r) ∧ Below w.heap.size w w' := by
  have hu35 := Try.underlying35
  have HR0_1 := Aside0.mk hr0_1
  have HC0_1 := Aside0.mk hc0_1
  clear hr0_1 hc0_1
  have HR1_1 := Aside0.mk hr1_1
  have HC1_1 := Aside0.mk hc1_1
  clear hr1_1 hc1_1
  have HB := Aside0.mk (Below.refl w.heap.size w)
  have H : (if a0_0 = a1_0 then ((notaryref01_Same.f k l0_1 l1_1).bind fun t392 => (some t392)) else (some false)) = some r := h
  clear h
  by_cases c3 : a0_0 = a1_0
  rotate_left
  · rw [if_neg c3] at H
    have c3b0 : (a0_0 == a1_0) = false := beq_eq_false_iff_ne.mpr c3
    have c3b1 : (a0_0 != a1_0) = true := bne_iff_ne.mpr c3
    obtain rfl := Option.some.inj H
    go_enter Try.func51, Try.ntmps51
    go_wp2_with (first | ((with_reducible refine gate_dst (N := 2) rfl ?_); refine box_event ?hg (N := 2) ?hd (cs := #[.int .i64 a0_0, .slice A0_1 l0_1.length c0_1]) (t := 35) ?hr ?_; (case hd => rfl); (case hg => rfl); (case hr => (go_simp; done)); intro gb390 hg w10 hbox hb; have n0_ := Aside0.mk (below_step HB.out hb); have n1_ := Aside0.mk (hbox); have n2_ := Aside0.mk ((by rw [hg]; exact (below_size HB.out) : w.heap.size ≤ gb390)); have n3_ := Aside0.mk ((by rw [hg]; exact (below_size HB.out) : w.heap.size ≤ gb390)); clear HB; have HB := n0_; have BK390 := n1_; have GW390 := n2_; have GE390 := n3_; clear n0_ n1_ n2_ n3_; clear hb hbox hg) | ((with_reducible refine gate_dst (N := 3) rfl ?_); refine box_event ?hg (N := 3) ?hd (cs := #[.int .i64 a1_0, .slice A1_1 l1_1.length c1_1]) (t := 35) ?hr ?_; (case hd => rfl); (case hg => rfl); (case hr => (go_simp; done)); intro gb391 hg w11 hbox hb; have n0_ := Aside0.mk (blk_below (g := gb390) (o := .cells #[.int .i64 a0_0, .slice A0_1 l0_1.length c0_1] 35 (0, 0)) (by exact BK390.out) hb); have n1_ := Aside0.mk (below_step HB.out hb); have n2_ := Aside0.mk (hbox); have n3_ := Aside0.mk ((by rw [hg]; exact (below_size HB.out) : w.heap.size ≤ gb391)); have n4_ := Aside0.mk ((by rw [hg]; exact (below_size HB.out) : w.heap.size ≤ gb391)); have n5_ := Aside0.mk ((by rw [hg]; exact Nat.ne_of_lt (blk_lt (g := gb390) (o := .cells #[.int .i64 a0_0, .slice A0_1 l0_1.length c0_1] 35 (0, 0)) (by exact BK390.out)) : gb390 ≠ gb391)); have n6_ := Aside0.mk ((by rw [hg]; exact Nat.ne_of_gt (blk_lt (g := gb390) (o := .cells #[.int .i64 a0_0, .slice A0_1 l0_1.length c0_1] 35 (0, 0)) (by exact BK390.out)) : gb391 ≠ gb390)); clear BK390; clear HB; have BK390 := n0_; have HB := n1_; have BK391 := n2_; have GW391 := n3_; have GE391 := n4_; have NB390_391 := n5_; have NB391_390 := n6_; clear n0_ n1_ n2_ n3_ n4_ n5_ n6_; clear hb hbox hg; have hnb12 := NB390_391.out; have hnc12 := NB391_390.out; have hcz13_0 : w11.cell? ⟨gb390, 0, none⟩ = some (.int .i64 a0_0) := (blk_cell BK390.out 0).trans rfl; have hcz13_1 : w11.cell? ⟨gb390, 1, none⟩ = some (.slice A0_1 l0_1.length c0_1) := (blk_cell BK390.out 1).trans rfl; have hfz13_0 := blk_frozen BK390.out 0; have hfz13_1 := blk_frozen BK390.out 1; have hcz14_0 : w11.cell? ⟨gb391, 0, none⟩ = some (.int .i64 a1_0) := (blk_cell BK391.out 0).trans rfl; have hcz14_1 : w11.cell? ⟨gb391, 1, none⟩ = some (.slice A1_1 l1_1.length c1_1) := (blk_cell BK391.out 1).trans rfl; have hfz14_0 := blk_frozen BK391.out 0; have hfz14_1 := blk_frozen BK391.out 1))
    go_ret
    exact ⟨by (rfl), HB.out⟩

  rw [if_pos c3] at H
  have c3b0 : (a0_0 == a1_0) = true := beq_iff_eq.mpr c3
  have c3b1 : (a0_0 != a1_0) = false := bne_eq_false_iff_eq.mpr c3
  clear c3
  replace H := Option.bind_eq_some_iff.mp H
  obtain ⟨t392, A40, H⟩ := H
  replace H : (some t392) = some r := H
  have A4 := Aside0.mk A40
  clear A40
  obtain rfl := Option.some.inj H
  go_enter Try.func51, Try.ntmps51
  go_wp2_with (first | ((with_reducible refine gate_dst (N := 2) rfl ?_); refine box_event ?hg (N := 2) ?hd (cs := #[.int .i64 a0_0, .slice A0_1 l0_1.length c0_1]) (t := 35) ?hr ?_; (case hd => rfl); (case hg => rfl); (case hr => (go_simp; done)); intro gb390 hg w5 hbox hb; have n0_ := Aside0.mk (below_step HB.out hb); have n1_ := Aside0.mk (hbox); have n2_ := Aside0.mk ((by rw [hg]; exact (below_size HB.out) : w.heap.size ≤ gb390)); have n3_ := Aside0.mk ((by rw [hg]; exact (below_size HB.out) : w.heap.size ≤ gb390)); clear HB; have HB := n0_; have BK390 := n1_; have GW390 := n2_; have GE390 := n3_; clear n0_ n1_ n2_ n3_; clear hb hbox hg) | ((with_reducible refine gate_dst (N := 3) rfl ?_); refine box_event ?hg (N := 3) ?hd (cs := #[.int .i64 a1_0, .slice A1_1 l1_1.length c1_1]) (t := 35) ?hr ?_; (case hd => rfl); (case hg => rfl); (case hr => (go_simp; done)); intro gb391 hg w6 hbox hb; have n0_ := Aside0.mk (blk_below (g := gb390) (o := .cells #[.int .i64 a0_0, .slice A0_1 l0_1.length c0_1] 35 (0, 0)) (by exact BK390.out) hb); have n1_ := Aside0.mk (below_step HB.out hb); have n2_ := Aside0.mk (hbox); have n3_ := Aside0.mk ((by rw [hg]; exact (below_size HB.out) : w.heap.size ≤ gb391)); have n4_ := Aside0.mk ((by rw [hg]; exact (below_size HB.out) : w.heap.size ≤ gb391)); have n5_ := Aside0.mk ((by rw [hg]; exact Nat.ne_of_lt (blk_lt (g := gb390) (o := .cells #[.int .i64 a0_0, .slice A0_1 l0_1.length c0_1] 35 (0, 0)) (by exact BK390.out)) : gb390 ≠ gb391)); have n6_ := Aside0.mk ((by rw [hg]; exact Nat.ne_of_gt (blk_lt (g := gb390) (o := .cells #[.int .i64 a0_0, .slice A0_1 l0_1.length c0_1] 35 (0, 0)) (by exact BK390.out)) : gb391 ≠ gb390)); clear BK390; clear HB; have BK390 := n0_; have HB := n1_; have BK391 := n2_; have GW391 := n3_; have GE391 := n4_; have NB390_391 := n5_; have NB391_390 := n6_; clear n0_ n1_ n2_ n3_ n4_ n5_ n6_; clear hb hbox hg; have hnb7 := NB390_391.out; have hnc7 := NB391_390.out; have hcz8_0 : w6.cell? ⟨gb390, 0, none⟩ = some (.int .i64 a0_0) := (blk_cell BK390.out 0).trans rfl; have hcz8_1 : w6.cell? ⟨gb390, 1, none⟩ = some (.slice A0_1 l0_1.length c0_1) := (blk_cell BK390.out 1).trans rfl; have hfz8_0 := blk_frozen BK390.out 0; have hfz8_1 := blk_frozen BK390.out 1; have hcz9_0 : w6.cell? ⟨gb391, 0, none⟩ = some (.int .i64 a1_0) := (blk_cell BK391.out 0).trans rfl; have hcz9_1 : w6.cell? ⟨gb391, 1, none⟩ = some (.slice A1_1 l1_1.length c1_1) := (blk_cell BK391.out 1).trans rfl; have hfz9_0 := blk_frozen BK391.out 0; have hfz9_1 := blk_frozen BK391.out 1) | (go_at_call 16; (with_reducible refine (notaryref01_Same.calls k _ _ l0_1 _ _ l1_1 t392 _ ?side1 ?side2 ?side3 ?side4 A4.out).mono ?_); (case side1 => exact Kd.C_below HR0_1.out HB.out); (case side2 => exact HC0_1.out); (case side3 => exact Kd.C_below HR1_1.out HB.out); (case side4 => exact HC1_1.out); rintro e w' ⟨rfl, ⟨nd, rfl⟩⟩))
  go_ret
  exact ⟨by (rfl), by repeat (with_reducible first | exact HB.out | apply pw_below_drewN)⟩
end Go.Proofs.Ytogjnipojakfjaa.PJd
