-- SLIM: a printed text of which the unused ways are cut off
-- PRINTED by print.py (a twelfth state) out of the translation. Not trusted: Lean checks it.
import Derived.Test.YtnkkgeglnmggpaaPCbx0
import Derived.Test.YtnkkgeglnmggpaaPCbx3
import Derived.Test.YtnkkgeglnmggpaaPCbx4
import Derived.Test.YtnkkgeglnmggpaaPCbx6
namespace Go.Proofs.Ytnkkgeglnmggpaa.PCb
open Go.RowKit Go.Proofs.YtnkkgeglnmggpaaW.PrintWords Go.Proofs.YtnkkgeglnmggpaaW.PrintLast Go.Proofs.YtnkkgeglnmggpaaW.PrintMore
attribute [local go_sem] max2_int min2_int max_two min_two max_three min_three max_four min_four   -- for this text's walks alone
set_option linter.unusedVariables false
set_option linter.unusedSimpArgs false

/-! ### notaryref47_Message: function 20 -/
def notaryref47_Message.l0 : Nat → Int → List Int → List Int → Int → Option (List Int × Int)
  | 0, _, _, _, _ => none
  | k + 1, x1, x8, x10, x11 => if x11 > 0 then (if x11 = 0 then (none) else (if x10.length < 140737488355328 then (notaryref47_Message.l0 k x1 x8 (x10 ++ [(Int.tmod (IntKind.u64.wrap (Int.tdiv x1 x11)) 256) % 256]) (IntKind.u64.wrap (Int.tdiv x11 256))) else (none))) else (if x10.length + x8.length < 140737488355328 then (some ((x10 ++ x8), 0)) else (none))
def notaryref47_Message.f (k : Nat) (l0 : List Int) (a1 : Int) (a2_0 : Int) (l2_1 : List Int) : Option (List Int × Int) := if (l0.length : Int) = 32 then ((notaryref46_Payload.f k a2_0 l2_1).bind fun bt184 => (if bt184.2 = 0 then ((some (([] : List Int) : List Int)).bind fun y191 => (if y191.length + l0.length < 140737488355328 then (notaryref47_Message.l0 k a1 bt184.1 (y191 ++ l0) 72057594037927936) else (none))) else (some (([] : List Int), bt184.2)))) else (some (([] : List Int), 2))
theorem notaryref47_Message.mono_l : ∀ k, (∀ y0 y1 y2 y3, LeO (notaryref47_Message.l0 k y0 y1 y2 y3) (notaryref47_Message.l0 (k + 1) y0 y1 y2 y3))
  | 0 => fun _ _ _ _ r h => by simp [notaryref47_Message.l0] at h
  | k + 1 => by
    have ih0 := notaryref47_Message.mono_l k
    · intro y0 y1 y2 y3
      unfold notaryref47_Message.l0
      repeat' first | (with_reducible exact ih0 _ _ _ _) | (with_reducible exact LeO.refl _) | (with_reducible refine LeO.ite ?_ ?_)
theorem notaryref47_Message.mono : ∀ a0 a1 a2 a3 k, LeO (notaryref47_Message.f k a0 a1 a2 a3) (notaryref47_Message.f (k + 1) a0 a1 a2 a3) := by
  intro a0 a1 a2 a3 k
  have ih0 := notaryref47_Message.mono_l k
  unfold notaryref47_Message.f
  repeat' first | (with_reducible exact ih0 _ _ _ _) | (with_reducible exact notaryref46_Payload.mono _ _ _) | (with_reducible exact LeO.refl _) | (with_reducible refine LeO.ite ?_ ?_) | (with_reducible refine LeO.bind ?_ (fun _ => ?_))
set_option maxHeartbeats 8000000 in
set_option maxRecDepth 100000 in
theorem notaryref47_Message.calls (k : Nat) (A0 : Option Addr) (c0 : Nat) (l0 : List Int) (a1 : Int) (a2_0 : Int) (A2_1 : Option Addr) (c2_1 : Nat) (l2_1 : List Int) (r1 : List Int) (r2 : Int) (w : World) (hr0 : Kd.C (Kd.int .u8) w A0 l0.length l0) (hc0 : l0.length ≤ c0) (hr2_1 : Kd.C (Kd.int .u8) w A2_1 l2_1.length l2_1) (hc2_1 : l2_1.length ≤ c2_1) (h : notaryref47_Message.f k l0 a1 a2_0 l2_1 = some (r1, r2)) :
    Calls Try.prog 20 #[.slice A0 l0.length c0, .int .u64 a1, .agg #[.int .i64 a2_0, .slice A2_1 l2_1.length c2_1]] w fun e w' => ∃ v0_ : Value, e = .returned (.tuple #[v0_, .int .i64 r2]) ∧ Kd.R (Kd.int .u8) 5 w' w.heap.size (fun _ => True) v0_ r1 ∧ Below w.heap.size w w' := by
  have hu42 := Try.underlying42
  have HR0 := Aside0.mk hr0
  have HC0 := Aside0.mk hc0
  clear hr0 hc0
  have HR2_1 := Aside0.mk hr2_1
  have HC2_1 := Aside0.mk hc2_1
  clear hr2_1 hc2_1
  have HB := Aside0.mk (Below.refl w.heap.size w)
  have H : (if (l0.length : Int) = 32 then ((notaryref46_Payload.f k a2_0 l2_1).bind fun bt184 => (if bt184.2 = 0 then ((some (([] : List Int) : List Int)).bind fun y191 => (if y191.length + l0.length < 140737488355328 then (notaryref47_Message.l0 k a1 bt184.1 (y191 ++ l0) 72057594037927936) else (none))) else (some (([] : List Int), bt184.2)))) else (some (([] : List Int), 2))) = some (r1, r2) := h
  clear h
  by_cases c4 : (l0.length : Int) = 32
  rotate_left
  · rw [if_neg c4] at H
    have c4b0 : ((l0.length : Int) == 32) = false := beq_eq_false_iff_ne.mpr c4
    have c4b1 : ((l0.length : Int) != 32) = true := bne_iff_ne.mpr c4
    obtain ⟨y181, hy181⟩ : ∃ y_ : List Int, y_ = ([] : List Int) := ⟨_, rfl⟩
    replace H : (some (y181, 2)) = some (r1, r2) := by (rw [hy181]; with_reducible exact H)
    have Ny181 := Aside0.mk hy181
    clear hy181
    simp only [Option.some.injEq, Prod.mk.injEq] at H
    obtain ⟨rfl, rfl⟩ := H
    go_enter Try.func20, Try.ntmps20
    go_wp2_with (first | ((with_reducible refine gate_dst (N := 5) rfl ?_); refine box_event ?hg (N := 5) ?hd (cs := #[.int .i64 a2_0, .slice A2_1 l2_1.length c2_1]) (t := 42) ?hr ?_; (case hd => rfl); (case hg => rfl); (case hr => (go_simp; done)); intro gb180 hg w26 hbox hb; have n0_ := Aside0.mk (below_step HB.out hb); have n1_ := Aside0.mk (hbox); have n2_ := Aside0.mk ((by rw [hg]; exact (below_size HB.out) : w.heap.size ≤ gb180)); have n3_ := Aside0.mk ((by rw [hg]; exact (below_size HB.out) : w.heap.size ≤ gb180)); clear HB; have HB := n0_; have BK180 := n1_; have GW180 := n2_; have GE180 := n3_; clear n0_ n1_ n2_ n3_; clear hb hbox hg) | ((with_reducible refine gate_dst (N := 15) rfl ?_); refine Kd.R_lit (Kd.int .u8) _ 5 ?hg (N := 15) ?hd (xs := ([] : List Int)) (inner := []) (ok := fun _ => True) (okp := fun _ => True) ?hr ?hp (fun _ hk => hk) trivial (Below.refl _ _) (Nat.le_refl _) (by simp) ?_; (case hd => rfl); (case hg => rfl); (case hr => (go_simp; done)); (case hp => exact (Reps.none _ _)); intro v182 w27 ho28 hb hg_ hnew_; clear hg_ hnew_; (rw [← Ny181.out] at ho28); have n0_ := Aside0.mk (Kd.R_lower ho28 (below_size HB.out)); have n1_ := Aside0.mk (blk_below (g := gb180) (o := .cells #[.int .i64 a2_0, .slice A2_1 l2_1.length c2_1] 42 (0, 0)) (by exact BK180.out) hb); have n2_ := Aside0.mk (below_step HB.out hb); clear BK180; clear HB; have HO183 := n0_; have BK180 := n1_; have HB := n2_; clear n0_ n1_ n2_; clear hb ho28))
    go_ret2
    exact ⟨_, by (rfl), by exact HO183.out, HB.out⟩


  rw [if_pos c4] at H
  have c4b0 : ((l0.length : Int) == 32) = true := beq_iff_eq.mpr c4
  have c4b1 : ((l0.length : Int) != 32) = false := bne_eq_false_iff_eq.mpr c4
  clear c4
  replace H := Option.bind_eq_some_iff.mp H
  obtain ⟨⟨t184, t187⟩, A50, H⟩ := H
  replace H : (if t187 = 0 then ((some (([] : List Int) : List Int)).bind fun y191 => (if y191.length + l0.length < 140737488355328 then (notaryref47_Message.l0 k a1 t184 (y191 ++ l0) 72057594037927936) else (none))) else (some (([] : List Int), t187))) = some (r1, r2) := H
  have A5 := Aside0.mk A50
  clear A50
  by_cases c6 : t187 = 0
  rotate_left
  · rw [if_neg c6] at H
    have c6b0 : (t187 == 0) = false := beq_eq_false_iff_ne.mpr c6
    have c6b1 : (t187 != 0) = true := bne_iff_ne.mpr c6
    obtain ⟨y188, hy188⟩ : ∃ y_ : List Int, y_ = ([] : List Int) := ⟨_, rfl⟩
    replace H : (some (y188, t187)) = some (r1, r2) := by (rw [hy188]; with_reducible exact H)
    have Ny188 := Aside0.mk hy188
    clear hy188
    simp only [Option.some.injEq, Prod.mk.injEq] at H
    obtain ⟨rfl, rfl⟩ := H
    go_enter Try.func20, Try.ntmps20
    go_wp2_with (first | ((with_reducible refine gate_dst (N := 5) rfl ?_); refine box_event ?hg (N := 5) ?hd (cs := #[.int .i64 a2_0, .slice A2_1 l2_1.length c2_1]) (t := 42) ?hr ?_; (case hd => rfl); (case hg => rfl); (case hr => (go_simp; done)); intro gb180 hg w21 hbox hb; have n0_ := Aside0.mk (below_step HB.out hb); have n1_ := Aside0.mk (hbox); have n2_ := Aside0.mk ((by rw [hg]; exact (below_size HB.out) : w.heap.size ≤ gb180)); have n3_ := Aside0.mk ((by rw [hg]; exact (below_size HB.out) : w.heap.size ≤ gb180)); clear HB; have HB := n0_; have BK180 := n1_; have GW180 := n2_; have GE180 := n3_; clear n0_ n1_ n2_ n3_; clear hb hbox hg; have hcz22_0 : w21.cell? ⟨gb180, 0, none⟩ = some (.int .i64 a2_0) := (blk_cell BK180.out 0).trans rfl; have hcz22_1 : w21.cell? ⟨gb180, 1, none⟩ = some (.slice A2_1 l2_1.length c2_1) := (blk_cell BK180.out 1).trans rfl; have hfz22_0 := blk_frozen BK180.out 0; have hfz22_1 := blk_frozen BK180.out 1) | ((with_reducible refine gate_callee (f := 40) rfl ?_); refine goesL_ (some 18) rfl rfl Try.func40 (by kernel_rfl) rfl #[.agg #[.int .i64 a2_0, .slice A2_1 l2_1.length c2_1]] rfl (by (try simp only [List.map_toArray, List.map_cons, List.map_nil]); (rfl)) ?_; (with_reducible refine (notaryref46_Payload.calls k a2_0 _ _ l2_1 t184 t187 _ ?side1 ?side2 A5.out).mono ?_); (case side1 => exact Kd.C_below HR2_1.out HB.out); (case side2 => exact HC2_1.out); rintro e w23 ⟨v185, rfl, ho0, hb⟩; refine ⟨_, rfl, ?_⟩; have n0_ := Aside0.mk (Kd.R_lower ho0 (below_size HB.out)); have n1_ := Aside0.mk (blk_below (g := gb180) (o := .cells #[.int .i64 a2_0, .slice A2_1 l2_1.length c2_1] 42 (0, 0)) (by exact BK180.out) hb); have n2_ := Aside0.mk (below_step HB.out hb); clear BK180; clear HB; have HO186 := n0_; have BK180 := n1_; have HB := n2_; clear n0_ n1_ n2_; (try clear hb); (try clear ho0)) | ((with_reducible refine gate_dst (N := 23) rfl ?_); refine Kd.R_lit (Kd.int .u8) _ 5 ?hg (N := 23) ?hd (xs := ([] : List Int)) (inner := []) (ok := fun _ => True) (okp := fun _ => True) ?hr ?hp (fun _ hk => hk) trivial (Below.refl _ _) (Nat.le_refl _) (by simp) ?_; (case hd => rfl); (case hg => rfl); (case hr => (go_simp; done)); (case hp => exact (Reps.none _ _)); intro v189 w24 ho25 hb hg_ hnew_; clear hg_ hnew_; (rw [← Ny188.out] at ho25); have n0_ := Aside0.mk (Kd.R_elder' (by exact HO186.out) (Kd.R_base ho25) hb); have n1_ := Aside0.mk (Kd.R_lower (Kd.R_new' ho25 (Kd.R_lt (by exact HO186.out))) (below_size HB.out)); have n2_ := Aside0.mk (blk_below (g := gb180) (o := .cells #[.int .i64 a2_0, .slice A2_1 l2_1.length c2_1] 42 (0, 0)) (by exact BK180.out) hb); have n3_ := Aside0.mk (below_step HB.out hb); clear HO186; clear BK180; clear HB; have HO186 := n0_; have HO190 := n1_; have BK180 := n2_; have HB := n3_; clear n0_ n1_ n2_ n3_; clear hb ho25))
    go_ret2
    exact ⟨_, by (rfl), by exact Kd.R_mono HO190.out (fun _ hk => trivial), HB.out⟩
  rw [if_pos c6] at H
  have c6b0 : (t187 == 0) = true := beq_iff_eq.mpr c6
  have c6b1 : (t187 != 0) = false := bne_eq_false_iff_eq.mpr c6
  clear c6
  obtain ⟨y191, hy191⟩ : ∃ y_ : List Int, y_ = ([] : List Int) := ⟨_, rfl⟩
  replace H : (if y191.length + l0.length < 140737488355328 then (notaryref47_Message.l0 k a1 t184 (y191 ++ l0) 72057594037927936) else (none)) = some (r1, r2) := by ((have H2_ := (Option.bind_some _ _).symm.trans H; rw [hy191]; with_reducible exact H2_))
  have Ny191 := Aside0.mk hy191
  clear hy191
  by_cases c7 : y191.length + l0.length < 140737488355328
  rotate_left
  · rw [if_neg c7] at H
    exact absurd H (by simp)
  rw [if_pos c7] at H
  have LMc7 := Aside0.mk c7
  clear c7
  obtain ⟨y194, hy194⟩ : ∃ y_ : List Int, y_ = (y191 ++ l0) := ⟨_, rfl⟩
  replace H : (notaryref47_Message.l0 k a1 t184 y194 72057594037927936) = some (r1, r2) := by (rw [hy194]; with_reducible exact H)
  have Ny194 := Aside0.mk hy194
  clear hy194
  have H' := Aside0.mk H
  clear H
  go_enter Try.func20, Try.ntmps20
  go_wp2_with (first | ((with_reducible refine gate_dst (N := 5) rfl ?_); refine box_event ?hg (N := 5) ?hd (cs := #[.int .i64 a2_0, .slice A2_1 l2_1.length c2_1]) (t := 42) ?hr ?_; (case hd => rfl); (case hg => rfl); (case hr => (go_simp; done)); intro gb180 hg w8 hbox hb; have n0_ := Aside0.mk (below_step HB.out hb); have n1_ := Aside0.mk (hbox); have n2_ := Aside0.mk ((by rw [hg]; exact (below_size HB.out) : w.heap.size ≤ gb180)); have n3_ := Aside0.mk ((by rw [hg]; exact (below_size HB.out) : w.heap.size ≤ gb180)); clear HB; have HB := n0_; have BK180 := n1_; have GW180 := n2_; have GE180 := n3_; clear n0_ n1_ n2_ n3_; clear hb hbox hg; have hcz9_0 : w8.cell? ⟨gb180, 0, none⟩ = some (.int .i64 a2_0) := (blk_cell BK180.out 0).trans rfl; have hcz9_1 : w8.cell? ⟨gb180, 1, none⟩ = some (.slice A2_1 l2_1.length c2_1) := (blk_cell BK180.out 1).trans rfl; have hfz9_0 := blk_frozen BK180.out 0; have hfz9_1 := blk_frozen BK180.out 1) | ((with_reducible refine gate_callee (f := 40) rfl ?_); refine goesL_ (some 18) rfl rfl Try.func40 (by kernel_rfl) rfl #[.agg #[.int .i64 a2_0, .slice A2_1 l2_1.length c2_1]] rfl (by (try simp only [List.map_toArray, List.map_cons, List.map_nil]); (rfl)) ?_; (with_reducible refine (notaryref46_Payload.calls k a2_0 _ _ l2_1 t184 t187 _ ?side1 ?side2 A5.out).mono ?_); (case side1 => exact Kd.C_below HR2_1.out HB.out); (case side2 => exact HC2_1.out); rintro e w10 ⟨v185, rfl, ho0, hb⟩; refine ⟨_, rfl, ?_⟩; have n0_ := Aside0.mk (Kd.R_lower ho0 (below_size HB.out)); have n1_ := Aside0.mk (blk_below (g := gb180) (o := .cells #[.int .i64 a2_0, .slice A2_1 l2_1.length c2_1] 42 (0, 0)) (by exact BK180.out) hb); have n2_ := Aside0.mk (below_step HB.out hb); clear BK180; clear HB; have HO186 := n0_; have BK180 := n1_; have HB := n2_; clear n0_ n1_ n2_; (try clear hb); (try clear ho0)) | ((with_reducible refine gate_dst (N := 25) rfl ?_); refine Kd.R_lit (Kd.int .u8) _ 5 ?hg (N := 25) ?hd (xs := ([] : List Int)) (inner := []) (ok := fun _ => True) (okp := fun _ => True) ?hr ?hp (fun _ hk => hk) trivial (Below.refl _ _) (Nat.le_refl _) (by simp) ?_; (case hd => rfl); (case hg => rfl); (case hr => (go_simp; done)); (case hp => exact (Reps.none _ _)); intro v192 w11 ho12 hb hg_ hnew_; clear hg_ hnew_; (rw [← Ny191.out] at ho12); have n0_ := Aside0.mk (Kd.R_elder' (by exact HO186.out) (Kd.R_base ho12) hb); have n1_ := Aside0.mk (Kd.R_lower (Kd.R_new' ho12 (Kd.R_lt (by exact HO186.out))) (below_size HB.out)); have n2_ := Aside0.mk (blk_below (g := gb180) (o := .cells #[.int .i64 a2_0, .slice A2_1 l2_1.length c2_1] 42 (0, 0)) (by exact BK180.out) hb); have n3_ := Aside0.mk (below_step HB.out hb); clear HO186; clear BK180; clear HB; have HO186 := n0_; have HO193 := n1_; have BK180 := n2_; have HB := n3_; clear n0_ n1_ n2_ n3_; clear hb ho12) | ((with_reducible refine gate_builtin (b := .append) (xs := #[.tmp 25, .tmp 26]) rfl ?_); at_builtin; refine Kd.R_append_rows (Kd.int .u8) (w0 := w) w.heap.size rfl (.tmp 25) (.tmp 26) 22 5 (.int .u8 0) 1 rfl Try.underlying22 info5 rfl (by decide) (by omega) v192 y191 l0 _ _ _ (fun k_ => some k_ ≠ (v185 : Value).ownBlock) (fun _ => False) rfl rfl ?aO ?aR (fun _ _ h => h) (fun _ h => h.elim) ?aF ?aB ?aS ?aL ?_; (case aR => exact Kd.C_below HR0.out HB.out); (case aB => exact HB.out); (case aF => exact (fun k_ hk => Kd.fresh' (Kd.R_lt (by exact HO186.out)) k_ hk)); (case aO => exact (by exact Kd.R_mono HO193.out (fun _ hk => hk.2))); (case aS => exact (below_size HB.out)); (case aL => have := LMc7.out; omega); intro v195 w13 ho hb hg hat; rw [← Ny194.out] at ho; have n0_ := Aside0.mk (blk_grown (g := gb180) (o := .cells #[.int .i64 a2_0, .slice A2_1 l2_1.length c2_1] 42 (0, 0)) (by exact BK180.out) hg (Kd.R_ne HO193.out BK180.out (by decide))); have n1_ := Aside0.mk (Kd.R_after (ok := (fun _ => True)) (by exact HO186.out) hg hat); have n2_ := Aside0.mk (hb); have n3_ := Aside0.mk (ho); clear BK180; clear HO186; clear HB; clear HO193; have BK180 := n0_; have HO186 := n1_; have HB := n2_; have HO196 := n3_; clear n0_ n1_ n2_ n3_; clear ho hb hg hat))
  go_loopg [10, 11] k (fun kq v10 v11 w' => ∃ (x10_1 : List Int) (x11_1 : Int), v11 = .int .u64 x11_1 ∧ Aside0 (notaryref47_Message.l0 kq a1 t184 x10_1 x11_1 = some (r1, r2)) ∧ Aside0 (kq ≤ k) ∧ Aside0 (Kd.R (Kd.int .u8) 5 w' w.heap.size (fun k_ => some k_ ≠ (v10 : Value).ownBlock) v185 t184) ∧ Aside0 (Kd.R (Kd.int .u8) 5 w' w.heap.size (fun k_ => some k_ ≠ (v185 : Value).ownBlock) v10 x10_1) ∧ Aside0 (w'.heap[gb180]? = some (.cells #[.int .i64 a2_0, (.slice A2_1 l2_1.length c2_1)] 42 (0, 0))) ∧ Aside0 (Below w.heap.size w w'))
  case atStart => exact ⟨(y194), (72057594037927936), (by (rfl)), H', ⟨Nat.le_refl _⟩, ⟨by exact Kd.R_mono HO186.out (fun _ hk => hk.2)⟩, ⟨by exact HO196.out⟩, ⟨by exact BK180.out⟩, ⟨HB.out⟩⟩
  clear H'
  try clear c4b0
  try clear c4b1
  try clear c6b0
  try clear c6b1
  try clear hcz9_0
  try clear hcz9_1
  try clear hfz9_0
  try clear hfz9_1
  obtain ⟨x10_1, x11_1, rfl, HA, HK1, HO_8, HO_10, BK180, HB⟩ := hrel
  rcases gk with _ | k1
  · exact absurd HA.out (by simp [notaryref47_Message.l0])
  have H := HA.out
  clear HA
  simp only [notaryref47_Message.l0] at H
  by_cases c14 : x11_1 > 0
  rotate_left
  · rw [if_neg c14] at H
    have c14b0 : decide (0 < x11_1) = false := decide_eq_false c14
    clear c14
    by_cases c18 : x10_1.length + t184.length < 140737488355328
    rotate_left
    · rw [if_neg c18] at H
      exact absurd H (by simp)
    rw [if_pos c18] at H
    have LMc18 := Aside0.mk c18
    clear c18
    obtain ⟨y200, hy200⟩ : ∃ y_ : List Int, y_ = (x10_1 ++ t184) := ⟨_, rfl⟩
    replace H : (some (y200, 0)) = some (r1, r2) := by (rw [hy200]; with_reducible exact H)
    have Ny200 := Aside0.mk hy200
    clear hy200
    simp only [Option.some.injEq, Prod.mk.injEq] at H
    obtain ⟨rfl, rfl⟩ := H
    obtain ⟨Ao20, co20, eo20⟩ := Kd.R_slice HO_8.out
    subst eo20
    go_wp2_with ((((with_reducible refine gate_builtin (b := .append) (xs := #[.tmp 40, .tmp 41]) rfl ?_); at_builtin; refine Kd.R_append_rows (Kd.int .u8) (w0 := w) w.heap.size rfl (.tmp 40) (.tmp 41) 22 5 (.int .u8 0) 1 rfl Try.underlying22 info5 rfl (by decide) (by omega) u10 x10_1 t184 _ _ _ (fun k_ => some k_ ≠ (.slice Ao20 t184.length co20 : Value).ownBlock) (fun _ => False) rfl rfl ?aO ?aR (fun _ _ h => h) (fun _ h => h.elim) ?aF ?aB ?aS ?aL ?_; (case aR => repeat ((exact (Kd.R_reads' HO_8.out).2.2))); (case aB => exact HB.out); (case aF => exact (fun k_ hk => Kd.fresh' (Kd.R_lt (by exact HO_8.out)) k_ hk)); (case aO => exact (by exact HO_10.out)); (case aS => exact (below_size HB.out)); (case aL => have := LMc18.out; omega); intro v201 w19 ho hb hg hat; rw [← Ny200.out] at ho; have n0_ := Aside0.mk (Kd.R_after (ok := (fun _ => True)) (by exact Kd.R_mono HO_8.out (fun _ hk => ⟨trivial, by (exact hk)⟩)) hg hat); have n1_ := Aside0.mk (blk_grown (g := gb180) (o := .cells #[.int .i64 a2_0, .slice A2_1 l2_1.length c2_1] 42 (0, 0)) (by exact BK180.out) hg (Kd.R_ne HO_10.out BK180.out (by decide))); have n2_ := Aside0.mk (hb); have n3_ := Aside0.mk (ho); clear HO_8; clear BK180; clear HB; clear HO_10; have HO_8 := n0_; have BK180 := n1_; have HB := n2_; have HO202 := n3_; clear n0_ n1_ n2_ n3_; clear ho hb hg hat)))
    go_ret2
    exact ⟨_, by (rfl), by exact Kd.R_mono HO202.out (fun _ hk => trivial), HB.out⟩
  rw [if_pos c14] at H
  have c14b0 : decide (0 < x11_1) = true := decide_eq_true c14
  clear c14
  by_cases c15 : x11_1 = 0
  · rw [if_pos c15] at H
    exact absurd H (by simp)
  rw [if_neg c15] at H
  have c15b0 : (x11_1 == 0) = false := beq_eq_false_iff_ne.mpr c15
  have c15b1 : (x11_1 != 0) = true := bne_iff_ne.mpr c15
  by_cases c16 : x10_1.length < 140737488355328
  rotate_left
  · rw [if_neg c16] at H
    exact absurd H (by simp)
  rw [if_pos c16] at H
  have LMc16 := Aside0.mk c16
  clear c16
  obtain ⟨y197, hy197⟩ : ∃ y_ : List Int, y_ = (x10_1 ++ [(Int.tmod (IntKind.u64.wrap (Int.tdiv a1 x11_1)) 256) % 256]) := ⟨_, rfl⟩
  replace H : (notaryref47_Message.l0 k1 a1 t184 y197 (IntKind.u64.wrap (Int.tdiv x11_1 256))) = some (r1, r2) := by (rw [hy197]; with_reducible exact H)
  have Ny197 := Aside0.mk hy197
  clear hy197
  have H' := Aside0.mk H
  clear H
  go_wp2_with ((((with_reducible refine gate_builtin (b := .append) (xs := #[.tmp 30, .tmp 36]) rfl ?_); at_builtin; refine Kd.R_append (Kd.int .u8) (w0 := w) w.heap.size rfl (.tmp 30) (.tmp 36) 22 5 (.int .u8 0) 1 rfl Try.underlying22 info5 rfl (by decide) (by omega) u10 x10_1 ((Int.tmod (IntKind.u64.wrap (Int.tdiv a1 x11_1)) 256) % 256) [.int .u8 ((Int.tmod (IntKind.u64.wrap (Int.tdiv a1 x11_1)) 256) % 256)] (fun k_ => some k_ ≠ (v185 : Value).ownBlock) (fun _ => False) rfl rfl ?aP (fun _ hk => hk.elim) ?aF ?aO ?aB ?aS ?aL ?_; (case aP => exact rfl); (case aB => exact HB.out); (case aF => exact (fun k_ hk => Kd.fresh' (Kd.R_lt (by exact HO_8.out)) k_ hk)); (case aO => exact (by exact HO_10.out)); (case aS => exact (below_size HB.out)); (case aL => have := LMc16.out; omega); intro v198 w17 ho hb hg hat; rw [← Ny197.out] at ho; have n0_ := Aside0.mk (Kd.R_after (ok := (fun _ => True)) (by exact Kd.R_mono HO_8.out (fun _ hk => ⟨trivial, by (exact hk)⟩)) hg hat); have n1_ := Aside0.mk (blk_grown (g := gb180) (o := .cells #[.int .i64 a2_0, .slice A2_1 l2_1.length c2_1] 42 (0, 0)) (by exact BK180.out) hg (Kd.R_ne HO_10.out BK180.out (by decide))); have n2_ := Aside0.mk (hb); have n3_ := Aside0.mk (ho); clear HO_8; clear BK180; clear HB; clear HO_10; have HO_8 := n0_; have BK180 := n1_; have HB := n2_; have HO199 := n3_; clear n0_ n1_ n2_ n3_; clear ho hb hg hat)))
  go_roundg k1
  case measure => have := HK1.out; omega
  case rel => exact ⟨(y197), (IntKind.u64.wrap (Int.tdiv x11_1 256)), (by (rfl)), H', ⟨by have := HK1.out; omega⟩, ⟨by exact Kd.R_mono HO_8.out (fun _ hk => hk.2)⟩, ⟨by exact HO199.out⟩, ⟨by exact BK180.out⟩, ⟨HB.out⟩⟩/-! ### entry_length: function 50 (given) -/
/-- a number's four bytes -/
def entry_length.bytes (n : Int) : List Int := [n / 16777216, n / 65536, n / 256 % 256, n % 256]
set_option maxHeartbeats 4000000 in
theorem entry_length.calls (n : Nat) (hn : n < 100000) (w : World) :
    Calls Try.prog 50 #[.int .i64 (n : Int)] w fun e w' => e = .returned (.agg (nums .u8 (entry_length.bytes n)).toArray) ∧ Below w.heap.size w w' := by
  go_enter Try.func50, Try.ntmps50
  go_wp2
  refine bodyPost_ret (v := .agg (nums .u8 (entry_length.bytes n)).toArray) (results_cell_row rfl _ _ w.heap.size 76 _ (0, 0) _ rfl (blk_new _ _) Try.underlying76 rfl (by kernel_rfl)) rfl ⟨rfl, below_alloc (Below.refl _ _) _⟩

/-! ### slices_Grow_byte_byte: function 61 (given) -/
theorem slices_Grow_byte_byte.row (W : World) (base : Nat) (cs : Array Value) (G : Nat) (hb : base ≤ W.heap.size) (hG : G ≤ 9223372036854775807) (hs : cs.size = G) :
    Kd.R (Kd.int .u8) 5 (W.alloc (.cells cs 5)) base (fun _ => True) (.slice (some ⟨W.heap.size, 0, none⟩) 0 G) [] := by
  have h := World.ownsRow_lit (base := base) (e := 5) (size := 1) W cs G hb (by simpa [maxLen] using hG) (by simpa using hs)
  have h2 := own_take h (Nat.zero_le _)
  exact Kd.R_of_own (enc := Value.int .u8) (xs := []) (by simpa [encs] using h2) (fun _ _ => trivial)
set_option maxHeartbeats 4000000 in
set_option maxRecDepth 100000 in
theorem slices_Grow_byte_byte.calls (n : Nat) (h1 : 0 < n) (h2 : n < 100000000000000) (w : World) :
    Calls Try.prog 61 #[.slice none 0 0, .int .i64 (n : Int)] w fun e w' => ∃ v, e = .returned v ∧ Kd.R (Kd.int .u8) 5 w' w.heap.size (fun _ => True) v [] ∧ Below w.heap.size w w' := by
  obtain ⟨i0, hi0, hz0, hsz, hby⟩ := info_parts info5
  have hrz : ∀ ty, (Builtin.append_ #[22, 3] ty #[.slice none 0 0, .int .i64 (n : Int)]).run Try.prog w = .ok (.slice (some ⟨w.heap.size, 0, none⟩) n (grownCap w n 0 5)) (w.drew.alloc (.cells (#[] ++ Builtin.zeroCells (Value.int .u8 0).cells n ++ Builtin.zeroCells (Value.int .u8 0).cells (grownCap w n 0 5 - n)) 5)) := fun ty => by
    have h := Lib.run_append_grow_zeros w 22 3 ty 5 i0 (.int .u8 0) .i64 .i64 Try.underlying22 Try.underlying3 hi0 hz0 none 0 0 [] (by exact run_firstCells_none w.drew i0.size 0 0 0) n h1 (by omega) (by omega) (by omega) (by rw [hby]; omega)
      (by rw [Nat.zero_add, hby]; exact growslice_fits (by omega) (by omega))
    simpa using h
  have hGn : n ≤ grownCap w n 0 5 := grownCap_ge w _ _ _
  obtain ⟨G, hG⟩ : ∃ G, G = grownCap w n 0 5 := ⟨_, rfl⟩
  rw [← hG] at hrz hGn
  have hG63 : G ≤ 9223372036854775807 := by
    have := grownCap_le_maxLen w n 0 5 (by unfold maxLen; omega)
    rw [← hG] at this
    unfold maxLen at this
    omega
  clear hi0 hz0 hsz hby hG
  obtain ⟨cs, hcs⟩ : ∃ cs : Array Value, cs = #[] ++ Builtin.zeroCells (Value.int .u8 0).cells n ++ Builtin.zeroCells (Value.int .u8 0).cells (G - n) := ⟨_, rfl⟩
  have HCS : Aside0 (cs.size = G) := ⟨by rw [hcs]; simp [Builtin.zeroCells, Value.cells]; omega⟩
  rw [← hcs] at hrz
  clear hcs
  have hd : decide (0 < (n : Int)) = true := decide_eq_true (by omega)
  have hd2 : decide ((n : Int) < 0) = false := decide_eq_false (by omega)
  go_enter Try.func61, Try.ntmps61
  go_wp2_with (at_builtin; refine Lib.wpList_append_run _ rfl _ _ _ _ rfl _ _ rfl rfl _ _ (hrz _) ?_)
  go_ret
  exact ⟨_, rfl, slices_Grow_byte_byte.row w.drew w.heap.size cs G (Nat.le_refl _) hG63 HCS.out, below_alloc (below_drew (Below.refl _ _)) _⟩

/-! ### slices_Concat_byte_byte: function 51 (given) -/
def slices_Concat_byte_byte.f (ls : List (List Int)) : Option (List Int) := if 0 < ls.flatten.length ∧ ls.flatten.length < 10000000000000 ∧ ls.length < 1000000 then some ls.flatten else none
def slices_Concat_byte_byte.cat (ls : List (List Int)) (i : Nat) : List Int := (ls.take i).flatten
theorem slices_Concat_byte_byte.cat_succ (ls : List (List Int)) (i : Nat) (h : i < ls.length) : slices_Concat_byte_byte.cat ls (i + 1) = slices_Concat_byte_byte.cat ls i ++ ls.getD i [] := by
  unfold slices_Concat_byte_byte.cat
  rw [List.take_succ_eq_append_getElem h, List.flatten_append, List.getD_eq_getElem?_getD, List.getElem?_eq_getElem h]
  simp
theorem slices_Concat_byte_byte.cat_all (ls : List (List Int)) : slices_Concat_byte_byte.cat ls ls.length = ls.flatten := by
  unfold slices_Concat_byte_byte.cat
  rw [List.take_length]
theorem slices_Concat_byte_byte.cat_le (ls : List (List Int)) (i : Nat) : (slices_Concat_byte_byte.cat ls i).length ≤ ls.flatten.length := by
  unfold slices_Concat_byte_byte.cat
  have : ls.flatten = (ls.take i).flatten ++ (ls.drop i).flatten := by rw [← List.flatten_append, List.take_append_drop]
  rw [this, List.length_append]
  omega
theorem slices_Concat_byte_byte.elem {w : World} {A : Option Addr} {ls : List (List Int)} (h : Kd.C (Kd.slice 5 (Kd.int .u8)) w A ls.length ls) (i : Nat) (hi : i < ls.length) :
    ∃ ad Ai ci, A = some ad ∧ w.cell? (ad.add i) = some (.slice Ai (ls.getD i []).length ci) ∧ (ls.getD i []).length ≤ ci ∧ Kd.C (Kd.int .u8) w Ai (ls.getD i []).length (ls.getD i []) := by
  obtain ⟨ad, c, e, _, ⟨Ai, ci, rfl, hl, hg⟩, hc⟩ := Kd.C_get h [] (i : Int) (by omega) (by omega)
  refine ⟨ad, Ai, ci, e, ?_, hl, hg⟩
  have := hc 0 _ rfl
  simpa [Kd.slice] using this
set_option maxHeartbeats 8000000 in
set_option maxRecDepth 100000 in
theorem slices_Concat_byte_byte.calls (A0 : Option Addr) (c0 : Nat) (l0 : List (List Int)) (r : List Int) (w : World) (hr0 : Kd.C (Kd.slice 5 (Kd.int .u8)) w A0 l0.length l0) (hc0 : l0.length ≤ c0) (h : slices_Concat_byte_byte.f l0 = some r) :
    Calls Try.prog 51 #[.slice A0 l0.length c0] w fun e w' => ∃ v0_ : Value, e = .returned (v0_) ∧ Kd.R (Kd.int .u8) 5 w' w.heap.size (fun _ => True) v0_ r ∧ Below w.heap.size w w' := by
  unfold slices_Concat_byte_byte.f at h
  by_cases hl : 0 < l0.flatten.length ∧ l0.flatten.length < 10000000000000 ∧ l0.length < 1000000
  case neg => rw [if_neg hl] at h; exact absurd h (by simp)
  rw [if_pos hl] at h
  obtain rfl := Option.some.inj h
  obtain ⟨hl0, hl1, hl2⟩ := hl
  have HR := Aside0.mk hr0
  have HS := Aside0.mk (slices_Concat_byte_byte.cat_succ l0)
  have HA := Aside0.mk (slices_Concat_byte_byte.cat_all l0)
  have HLE := Aside0.mk (slices_Concat_byte_byte.cat_le l0)
  have h0 : 0 < l0.length := by
    rcases l0 with _ | ⟨x, l⟩
    · simp at hl0
    · simp
  obtain ⟨ad, _, _, rfl, _⟩ := slices_Concat_byte_byte.elem hr0 0 h0
  have HT := Aside0.mk (And.intro hl0 hl1)
  obtain ⟨tot, htot⟩ : ∃ tot, tot = l0.flatten := ⟨_, rfl⟩
  rw [← htot] at HA HLE HT ⊢
  clear hr0 hc0 h hl0 hl1 htot
  go_enter Try.func51, Try.ntmps51
  go_wp2
  go_loopg [3, 11] l0.length (fun q v3 v11 w' => ∃ j : Nat, v11 = .int .i64 (j : Int) ∧ v3 = .int .i64 ((slices_Concat_byte_byte.cat l0 j).length : Int) ∧ j + q = l0.length ∧ w' = w)
  case atStart => exact ⟨0, by go_num, by go_num, by omega, rfl⟩
  case round =>
    obtain ⟨j, rfl, rfl, hjq, rfl⟩ := hrel
    have hjle := HLE.out j
    cases gk with
    | zero =>
      obtain rfl : j = l0.length := by omega
      have hd : decide ((l0.length : Int) < (l0.length : Int)) = false := by simp
      rw [HA.out]
      clear hjle hjq hd
      have hd : decide ((l0.length : Int) < (l0.length : Int)) = false := by simp
      go_wp2_with (go_at_call 61; (with_reducible refine (slices_Grow_byte_byte.calls tot.length HT.out.1 (by have := HT.out.2; omega) _).mono ?_); rintro e w1 ⟨v1, rfl, ho1, hb1⟩; have HO1 := Aside0.mk ho1; have HB1 := Aside0.mk hb1; clear ho1 hb1)
      obtain ⟨wo, rfl⟩ : ∃ wo : World, wo = wr := ⟨_, rfl⟩
      go_loopg [6, 27] l0.length (fun q v6 v27 w' => ∃ (j : Nat) (A6 : Option Addr) (c6 : Nat), v27 = .int .i64 (j : Int) ∧ v6 = .slice A6 (slices_Concat_byte_byte.cat l0 j).length c6 ∧ j + q = l0.length ∧ Aside0 (Kd.R (Kd.int .u8) 5 w' wo.heap.size (fun _ => True) (.slice A6 (slices_Concat_byte_byte.cat l0 j).length c6) (slices_Concat_byte_byte.cat l0 j)) ∧ Aside0 (Below wo.heap.size wo w'))
      case atStart =>
        obtain ⟨A1, c1, e1⟩ := Kd.R_slice HO1.out
        exact ⟨0, A1, c1, by go_num, e1, by omega, ⟨by have := HO1.out; rw [e1] at this; exact this⟩, HB1⟩
      case round =>
        clear HO1 HB1
        obtain ⟨j, A6, c6, rfl, rfl, hjq, HO, HB⟩ := hrel
        have hjle := HLE.out j
        cases gk with
        | zero =>
          obtain rfl : j = l0.length := by omega
          go_wp2
          go_ret
          exact ⟨_, rfl, by have := HO.out; rw [HA.out] at this ⊢; exact this, HB.out⟩
        | succ q =>
          have hj : (j : Int) < (l0.length : Int) := by omega
          have hj2 : j < l0.length := by omega
          have hdj : decide ((j : Int) < (l0.length : Int)) = true := decide_eq_true hj
          obtain ⟨ad', Ai, ci, hA, e0, hci, hg⟩ := slices_Concat_byte_byte.elem HR.out j hj2
          obtain rfl := Option.some.inj hA
          have e1 := pw_cell_below HB.out e0
          have HG := Aside0.mk (Kd.C_below hg HB.out)
          have hsucc := HS.out j hj2
          have hjle2 := HLE.out (j + 1)
          have hT := HT.out.2
          have hbd : (slices_Concat_byte_byte.cat l0 j).length + (l0.getD j []).length ≤ tot.length := by
            have := congrArg List.length hsucc
            rw [List.length_append] at this
            omega
          have HBD : Aside0 (((slices_Concat_byte_byte.cat l0 j).length + (l0.getD j []).length) * 1 ≤ 140737488355328) := ⟨by omega⟩
          have HSU := Aside0.mk hsucc
          clear hsucc hjle2 hA hd hci hg e0 hjle hbd
          generalize slices_Concat_byte_byte.cat l0 j = cj at *
          generalize l0.getD j [] = x at *
          have hw2 : IntKind.i64.wrap ((j : Int) + 1) = (j : Int) + 1 := IntWalk.i64_in _ (by omega)
          go_wp2_with ((with_reducible refine gate_builtin (b := .append) (xs := #[.tmp 31, .tmp 32]) rfl ?_); at_builtin; refine Kd.R_append_rows (Kd.int .u8) (w0 := wo) wo.heap.size rfl (.tmp 31) (.tmp 32) 22 5 (.int .u8 0) 1 rfl Try.underlying22 info5 rfl (by decide) (by omega) (.slice A6 cj.length c6) cj x _ _ _ (fun _ => True) (fun _ => False) rfl rfl HO.out HG.out (fun _ _ h => h) (fun _ h => h.elim) (fun _ _ => trivial) HB.out HB.out.size HBD.out ?_; intro v7 w7 ho7 hb7 hg7 hat7; obtain ⟨A7, c7, rfl⟩ := Kd.R_slice ho7; have HO7 := Aside0.mk ho7; have HB7 := Aside0.mk hb7; clear ho7 hb7 hg7 hat7)
          go_roundg q
          case measure => omega
          case rel => exact ⟨j + 1, A7, c7, by go_num, by rw [HSU.out]; (simp), by omega, by rw [HSU.out]; exact HO7, HB7⟩
    | succ q =>
      have hj : (j : Int) < (l0.length : Int) := by omega
      have hj2 : j < l0.length := by omega
      have hd : decide ((j : Int) < (l0.length : Int)) = true := decide_eq_true hj
      obtain ⟨ad', Ai, ci, hA, e0, hci, hg⟩ := slices_Concat_byte_byte.elem HR.out j hj2
      obtain rfl := Option.some.inj hA
      have hsucc := HS.out j hj2
      have hjle2 := HLE.out (j + 1)
      have hsl : (slices_Concat_byte_byte.cat l0 (j + 1)).length = (slices_Concat_byte_byte.cat l0 j).length + (l0.getD j []).length := by rw [hsucc, List.length_append]
      have hT := HT.out.2
      have hbd : (slices_Concat_byte_byte.cat l0 j).length + (l0.getD j []).length ≤ tot.length := by omega
      have HSL := Aside0.mk hsl
      clear hsucc hsl hjle2
      generalize slices_Concat_byte_byte.cat l0 j = cj at *
      generalize l0.getD j [] = x at *
      have hw1 : IntKind.i64.wrap ((cj.length : Int) + (x.length : Int)) = (cj.length : Int) + (x.length : Int) := IntWalk.i64_in _ (by omega)
      have hw2 : IntKind.i64.wrap ((j : Int) + 1) = (j : Int) + 1 := IntWalk.i64_in _ (by omega)
      have hneg : decide ((cj.length : Int) + (x.length : Int) < 0) = false := decide_eq_false (by omega)
      clear hg hci hjle
      go_wp2
      go_roundg q
      case measure => omega
      case rel => exact ⟨j + 1, by go_num, by rw [HSL.out]; go_num, by omega, rfl⟩

/-! ### entry_Frame: function 41 (given) -/
def entry_Frame.f (a0 : Int) (l0 l1 : List Int) : Option (List Int × Int) :=
  (entry_Payload.f a0 l0).bind fun p => if p.2 = 0 then (if l1.length = 32 then (if p.1.length < 100000 then some (entry_length.bytes (p.1.length : Int) ++ p.1 ++ l1, 0) else none) else some ([], 2)) else some ([], p.2)
theorem entry_Frame.blk_C {W : World} {g : Nat} {T : TypeId} {l : List Int} (h : W.heap[g]? = some (.cells (nums .u8 l).toArray T (0, 0))) (hl : l.length ≤ 1000) : Kd.C (Kd.int .u8) W (some ⟨g, 0, none⟩) l.length l := by
  refine Kd.C_of_reads (d := (0 : Int)) (h1 := fun _ => rfl) ⟨rfl, by omega, fun _ => ⟨_, rfl, fun j hj => ?_⟩⟩
  rw [add_plain, blk_cell h]
  simp [nums, List.getElem?_eq_getElem hj, List.getD_eq_getElem?_getD]
theorem entry_Frame.lit3 {W : World} {g : Nat} {T : TypeId} {A0 A1 A2 : Option Addr} {c0 c1 c2 : Nat} {l0 l1 l2 : List Int} (h : W.heap[g]? = some (.cells #[.slice A0 l0.length c0, .slice A1 l1.length c1, .slice A2 l2.length c2] T (0, 0)))
    (h0 : Kd.C (Kd.int .u8) W A0 l0.length l0) (h1 : Kd.C (Kd.int .u8) W A1 l1.length l1) (h2 : Kd.C (Kd.int .u8) W A2 l2.length l2) (k0 : l0.length ≤ c0) (k1 : l1.length ≤ c1) (k2 : l2.length ≤ c2) :
    Kd.C (Kd.slice 5 (Kd.int .u8)) W (some ⟨g, 0, none⟩) [l0, l1, l2].length [l0, l1, l2] := by
  refine ⟨rfl, by simp, fun _ => ⟨_, rfl, fun j p hj => ?_⟩⟩
  match j, hj with
  | 0, hj =>
    obtain rfl : l0 = p := by simpa using hj
    exact ⟨_, rfl, ⟨A0, c0, rfl, k0, h0⟩, fun i u hu => by
      match i, hu with
      | 0, hu =>
        obtain rfl : Value.slice A0 l0.length c0 = u := by simpa using hu
        rw [add_plain, blk_cell h]; rfl⟩
  | 1, hj =>
    obtain rfl : l1 = p := by simpa using hj
    exact ⟨_, rfl, ⟨A1, c1, rfl, k1, h1⟩, fun i u hu => by
      match i, hu with
      | 0, hu =>
        obtain rfl : Value.slice A1 l1.length c1 = u := by simpa using hu
        rw [add_plain, blk_cell h]; rfl⟩
  | 2, hj =>
    obtain rfl : l2 = p := by simpa using hj
    exact ⟨_, rfl, ⟨A2, c2, rfl, k2, h2⟩, fun i u hu => by
      match i, hu with
      | 0, hu =>
        obtain rfl : Value.slice A2 l2.length c2 = u := by simpa using hu
        rw [add_plain, blk_cell h]; rfl⟩
theorem entry_length.lit (n : Nat) (hn : n < 100000) (w : World) :
    Calls Try.prog 50 #[.int .i64 (n : Int)] w fun e w' => e = .returned (.agg #[.int .u8 ((n : Int) / 16777216), .int .u8 ((n : Int) / 65536), .int .u8 ((n : Int) / 256 % 256), .int .u8 ((n : Int) % 256)]) ∧ Below w.heap.size w w' := entry_length.calls n hn w
theorem entry_Frame.cat (w2 : World) (T T' : TypeId) (n : Int) (A2 : Option Addr) (c2 : Nat) (p : List Int) (A1 : Option Addr) (c1 : Nat) (l1 r : List Int) (hp : Kd.C (Kd.int .u8) w2 A2 p.length p) (hcp : p.length ≤ c2) (hl : Kd.C (Kd.int .u8) w2 A1 l1.length l1) (hcl : l1.length ≤ c1) (h : slices_Concat_byte_byte.f [entry_length.bytes n, p, l1] = some r) :
    Calls Try.prog 51 #[.slice (some ⟨w2.heap.size + 1, 0, none⟩) 3 3] ((w2.alloc (.cells #[.int .u8 (n / 16777216), .int .u8 (n / 65536), .int .u8 (n / 256 % 256), .int .u8 (n % 256)] T)).alloc (.cells #[.slice (some ⟨w2.heap.size, 0, none⟩) 4 4, .slice A2 p.length c2, .slice A1 l1.length c1] T'))
      fun e w' => ∃ v0_ : Value, e = .returned (v0_) ∧ Kd.R (Kd.int .u8) 5 w' w2.heap.size (fun _ => True) v0_ r ∧ Below w2.heap.size w2 w' := by
  have hb := blk_new w2 (.cells #[.int .u8 (n / 16777216), .int .u8 (n / 65536), .int .u8 (n / 256 % 256), .int .u8 (n % 256)] T)
  have h1 : Kd.C (Kd.int .u8) (w2.alloc (.cells #[.int .u8 (n / 16777216), .int .u8 (n / 65536), .int .u8 (n / 256 % 256), .int .u8 (n % 256)] T)) (some ⟨w2.heap.size, 0, none⟩) (entry_length.bytes n).length (entry_length.bytes n) := entry_Frame.blk_C hb (by simp [entry_length.bytes])
  have h2 := blk_new (w2.alloc (.cells #[.int .u8 (n / 16777216), .int .u8 (n / 65536), .int .u8 (n / 256 % 256), .int .u8 (n % 256)] T)) (.cells #[.slice (some ⟨w2.heap.size, 0, none⟩) 4 4, .slice A2 p.length c2, .slice A1 l1.length c1] T')
  rw [show (w2.alloc (.cells #[.int .u8 (n / 16777216), .int .u8 (n / 65536), .int .u8 (n / 256 % 256), .int .u8 (n % 256)] T)).heap.size = w2.heap.size + 1 by simp] at h2
  have h3 := entry_Frame.lit3 (l0 := entry_length.bytes n) (c0 := 4) h2 (Kd.C_alloc h1 _) (Kd.C_alloc (Kd.C_alloc hp _) _) (Kd.C_alloc (Kd.C_alloc hl _) _) (by simp [entry_length.bytes]) hcp hcl
  refine (slices_Concat_byte_byte.calls (some ⟨w2.heap.size + 1, 0, none⟩) 3 [entry_length.bytes n, p, l1] r _ h3 (by simp) h).mono ?_
  rintro e w' ⟨v, rfl, ho, hbb⟩
  exact ⟨v, rfl, Kd.R_lower ho (by simp; omega), below_step (below_alloc (below_alloc (Below.refl _ _) _) _) hbb⟩
set_option maxHeartbeats 8000000 in
set_option maxRecDepth 100000 in
theorem entry_Frame.calls (a0_0 : Int) (A0_1 : Option Addr) (c0_1 : Nat) (l0_1 : List Int) (A1 : Option Addr) (c1 : Nat) (l1 : List Int) (r1 : List Int) (r2 : Int) (w : World) (hr0_1 : Kd.C (Kd.int .u8) w A0_1 l0_1.length l0_1) (hc0_1 : l0_1.length ≤ c0_1) (hr1 : Kd.C (Kd.int .u8) w A1 l1.length l1) (hc1 : l1.length ≤ c1) (h : entry_Frame.f a0_0 l0_1 l1 = some (r1, r2)) :
    Calls Try.prog 41 #[.agg #[.int .i64 a0_0, .slice A0_1 l0_1.length c0_1], .slice A1 l1.length c1] w fun e w' => ∃ v0_ : Value, e = .returned (.tuple #[v0_, .int .i64 r2]) ∧ Kd.R (Kd.int .u8) 5 w' w.heap.size (fun _ => True) v0_ r1 ∧ Below w.heap.size w w' := by
  have HR0 := Aside0.mk hr0_1
  have HC0 := Aside0.mk hc0_1
  have HR1 := Aside0.mk hr1
  have HC1 := Aside0.mk hc1
  unfold entry_Frame.f at h
  obtain ⟨⟨p, x⟩, hp, h2⟩ := Option.bind_eq_some_iff.mp h
  have HP := Aside0.mk hp
  clear hr0_1 hc0_1 hr1 hc1 h hp
  simp only at h2
  by_cases hx : x = 0
  · subst hx
    rw [if_pos rfl] at h2
    by_cases hl : l1.length = 32
    · rw [if_pos hl] at h2
      by_cases hpl : p.length < 100000
      case neg => rw [if_neg hpl] at h2; exact absurd h2 (by simp)
      rw [if_pos hpl] at h2
      simp only [Option.some.injEq, Prod.mk.injEq] at h2
      obtain ⟨hr, rfl⟩ := h2
      have hb : ((l1.length : Int) != 32) = false := by rw [hl]; rfl
      have hb2 : (l1.length != 32) = false := by rw [hl]; rfl
      have HPL := Aside0.mk hpl
      have HCAT : Aside0 (slices_Concat_byte_byte.f [entry_length.bytes (p.length : Int), p, l1] = some r1) := ⟨by
        unfold slices_Concat_byte_byte.f
        rw [if_pos (by simp [entry_length.bytes]; omega), ← hr]
        simp⟩
      clear hr hpl hl
      go_enter Try.func41, Try.ntmps41
      go_wp2_with (first | (go_at_call 43; (with_reducible refine (entry_Payload.calls a0_0 A0_1 c0_1 l0_1 p 0 _ (Kd.C_alloc HR0.out _) HC0.out HP.out).mono ?_); rintro e w1 ⟨v1, rfl, ho1, hb1⟩; (obtain ⟨A2, c2, rfl⟩ := Kd.R_slice ho1); (have HO1 := Aside0.mk (Kd.R_reads' ho1)); (have HB1 : Aside0 (Below w.heap.size w w1) := ⟨below_step (below_alloc (Below.refl _ _) _) hb1⟩); clear ho1 hb1) | (go_at_call 50; (with_reducible refine (entry_length.lit p.length HPL.out _).mono ?_); rintro e w2 ⟨rfl, hb2⟩; (have HB2 : Aside0 (Below w.heap.size w w2) := ⟨below_step HB1.out hb2⟩); (have HO2 : Aside0 (Kd.C (Kd.int .u8) w2 A2 p.length p) := ⟨Kd.C_below HO1.out.2.2 hb2⟩); clear hb2) | (go_at_call 51; (with_reducible refine (entry_Frame.cat w2 _ _ (p.length : Int) A2 c2 p A1 c1 l1 r1 HO2.out HO1.out.2.1 (Kd.C_below HR1.out HB2.out) HC1.out HCAT.out).mono ?_); rintro e w3 ⟨v3, rfl, ho3, hb3⟩; (have HO3 : Aside0 (Kd.R (Kd.int .u8) 5 w3 w.heap.size (fun _ => True) v3 r1) := ⟨Kd.R_lower ho3 HB2.out.size⟩); (have HB3 : Aside0 (Below w.heap.size w w3) := ⟨below_step HB2.out hb3⟩); clear ho3 hb3))
      go_ret2
      exact ⟨_, rfl, HO3.out, HB3.out⟩
    · rw [if_neg hl] at h2
      simp only [Option.some.injEq, Prod.mk.injEq] at h2
      obtain ⟨rfl, rfl⟩ := h2
      have hb : ((l1.length : Int) != 32) = true := by simp; omega
      have hb2 : (l1.length != 32) = true := by simp; omega
      clear hl
      go_enter Try.func41, Try.ntmps41
      go_wp2_with (((go_at_call 43; (with_reducible refine (entry_Payload.calls a0_0 A0_1 c0_1 l0_1 p 0 _ (Kd.C_alloc HR0.out _) HC0.out HP.out).mono ?_); rintro e w1 ⟨v1, rfl, ho1, hb1⟩; (obtain ⟨A2, c2, rfl⟩ := Kd.R_slice ho1); (have HB1 : Aside0 (Below w.heap.size w w1) := ⟨below_step (below_alloc (Below.refl _ _) _) hb1⟩); clear ho1 hb1)))
      go_ret2
      exact ⟨_, rfl, Kd.R_nil _ _ _ _ _, HB1.out⟩
  · rw [if_neg hx] at h2
    simp only [Option.some.injEq, Prod.mk.injEq] at h2
    obtain ⟨rfl, rfl⟩ := h2
    have hb : (x != 0) = true := by simpa using hx
    clear hx
    go_enter Try.func41, Try.ntmps41
    go_wp2_with (((go_at_call 43; (with_reducible refine (entry_Payload.calls a0_0 A0_1 c0_1 l0_1 p x _ (Kd.C_alloc HR0.out _) HC0.out HP.out).mono ?_); rintro e w1 ⟨v1, rfl, ho1, hb1⟩; (obtain ⟨A2, c2, rfl⟩ := Kd.R_slice ho1); (have HB1 : Aside0 (Below w.heap.size w w1) := ⟨below_step (below_alloc (Below.refl _ _) _) hb1⟩); clear ho1 hb1)))
    go_ret2
    exact ⟨_, rfl, Kd.R_nil _ _ _ _ _, HB1.out⟩

/-! ### chain_Build: function 21 -/
def chain_Build.l0 : Nat → List Int → List Int → List Int → List (S42) → Int → Int → Option (List Int × List Int × Int)
  | 0, _, _, _, _, _, _ => none
  | k + 1, x0, x7, x8, x15, x16, x17 => if x17 < x16 then (if 0 ≤ x17 then (if x17 < (x15.length : Int) then ((chain_Message.f k x8 (IntKind.u64.wrap ((IntKind.u64.wrap (x17)) + 1)) ((rd_T42 x15 x17).f0) ((rd_T42 x15 x17).f1)).bind fun bt208 => (if bt208.2 = 0 then ((hmac_Tag.f k x0 bt208.1).bind fun t212 => ((entry_Frame.f ((rd_T42 x15 x17).f0) ((rd_T42 x15 x17).f1) t212).bind fun bt215 => (if bt215.2 = 0 then (if x7.length + bt215.1.length < 140737488355328 then (chain_Build.l0 k x0 (x7 ++ bt215.1) t212 x15 x16 (wrap64 (x17 + 1))) else (none)) else (some (([] : List Int), ([] : List Int), bt215.2))))) else (some (([] : List Int), ([] : List Int), bt208.2)))) else (none)) else (none)) else (some (x7, x8, 0))
def chain_Build.f (k : Nat) (l0 : List Int) (l1 : List (S42)) : Option (List Int × List Int × Int) := (chain_First.f).bind fun t203 => (chain_Build.l0 k l0 ([] : List Int) t203 l1 (l1.length : Int) 0)
theorem chain_Build.mono_l : ∀ k, (∀ y0 y1 y2 y3 y4 y5, LeO (chain_Build.l0 k y0 y1 y2 y3 y4 y5) (chain_Build.l0 (k + 1) y0 y1 y2 y3 y4 y5))
  | 0 => fun _ _ _ _ _ _ r h => by simp [chain_Build.l0] at h
  | k + 1 => by
    have ih0 := chain_Build.mono_l k
    · intro y0 y1 y2 y3 y4 y5
      unfold chain_Build.l0
      repeat' first | (with_reducible exact ih0 _ _ _ _ _ _) | (with_reducible exact chain_Message.mono _ _ _ _ _) | (with_reducible exact hmac_Tag.mono _ _ _) | (with_reducible exact LeO.refl _) | (with_reducible refine LeO.ite ?_ ?_) | (with_reducible refine LeO.bind ?_ (fun _ => ?_))
theorem chain_Build.mono : ∀ a0 a1 k, LeO (chain_Build.f k a0 a1) (chain_Build.f (k + 1) a0 a1) := by
  intro a0 a1 k
  have ih0 := chain_Build.mono_l k
  unfold chain_Build.f
  repeat' first | (with_reducible exact ih0 _ _ _ _ _ _) | (with_reducible exact LeO.refl _) | (with_reducible refine LeO.bind ?_ (fun _ => ?_))
set_option maxHeartbeats 8000000 in
set_option maxRecDepth 100000 in
theorem chain_Build.calls (k : Nat) (A0 : Option Addr) (c0 : Nat) (l0 : List Int) (A1 : Option Addr) (c1 : Nat) (l1 : List (S42)) (r1 : List Int) (r2 : List Int) (r3 : Int) (w : World) (hr0 : Kd.C (Kd.int .u8) w A0 l0.length l0) (hc0 : l0.length ≤ c0) (hr1 : Kd.C k42 w A1 l1.length l1) (hc1 : l1.length ≤ c1) (h : chain_Build.f k l0 l1 = some (r1, r2, r3)) :
    Calls Try.prog 21 #[.slice A0 l0.length c0, .slice A1 l1.length c1] w fun e w' => ∃ v0_ v1_ : Value, e = .returned (.tuple #[v0_, v1_, .int .i64 r3]) ∧ Kd.R (Kd.int .u8) 5 w' w.heap.size (fun k_ => some k_ ≠ (v1_ : Value).ownBlock) v0_ r1 ∧ Kd.R (Kd.int .u8) 5 w' w.heap.size (fun k_ => some k_ ≠ (v0_ : Value).ownBlock) v1_ r2 ∧ Below w.heap.size w w' := by
  have hu42 := Try.underlying42
  have HR0 := Aside0.mk hr0
  have HC0 := Aside0.mk hc0
  clear hr0 hc0
  have HR1 := Aside0.mk hr1
  have HC1 := Aside0.mk hc1
  clear hr1 hc1
  have HB := Aside0.mk (Below.refl w.heap.size w)
  have H : ((chain_First.f).bind fun t203 => (chain_Build.l0 k l0 ([] : List Int) t203 l1 (l1.length : Int) 0)) = some (r1, r2, r3) := h
  clear h
  replace H := Option.bind_eq_some_iff.mp H
  obtain ⟨t203, A30, H⟩ := H
  replace H : (chain_Build.l0 k l0 ([] : List Int) t203 l1 (l1.length : Int) 0) = some (r1, r2, r3) := H
  have A3 := Aside0.mk A30
  clear A30
  have H' := Aside0.mk H
  clear H
  go_enter Try.func21, Try.ntmps21
  go_wp2_with ((((with_reducible refine gate_callee (f := 23) rfl ?_); refine goesL_ (some 14) rfl rfl Try.func23 (by kernel_rfl) rfl #[] rfl (by (try simp only [List.map_toArray, List.map_cons, List.map_nil]); (done)) ?_; (with_reducible refine (chain_First.calls  t203 _ A3.out).mono ?_); rintro e w4 ⟨v204, rfl, ho0, hb⟩; refine ⟨_, rfl, ?_⟩; have n0_ := Aside0.mk (Kd.R_lower ho0 (below_size HB.out)); have n1_ := Aside0.mk (below_step HB.out hb); clear HB; have HO205 := n0_; have HB := n1_; clear n0_ n1_; (try clear hb); (try clear ho0))))
  go_loopg [7, 8, 17] k (fun kq v7 v8 v17 w' => ∃ (x7_1 : List Int) (x8_1 : List Int) (x17_1 : Int), v17 = .int .i64 x17_1 ∧ Aside0 (chain_Build.l0 kq l0 x7_1 x8_1 l1 (l1.length : Int) x17_1 = some (r1, r2, r3)) ∧ Aside0 (kq ≤ k) ∧ Aside0 (Kd.R (Kd.int .u8) 5 w' w.heap.size (fun k_ => some k_ ≠ (v8 : Value).ownBlock) v7 x7_1) ∧ Aside0 (Kd.R (Kd.int .u8) 5 w' w.heap.size (fun k_ => some k_ ≠ (v7 : Value).ownBlock) v8 x8_1) ∧ Aside0 (Below w.heap.size w w'))
  case atStart => exact ⟨([] : List Int), (t203), (0), (by (rfl)), H', ⟨Nat.le_refl _⟩, ⟨by (exact Kd.R_nil _ _ _ _ _)⟩, ⟨by exact Kd.R_mono HO205.out (fun _ hk => (by simp [Value.ownBlock]))⟩, ⟨HB.out⟩⟩
  clear H'
  obtain ⟨x7_1, x8_1, x17_1, rfl, HA, HK1, HO_7, HO_8, HB⟩ := hrel
  rcases gk with _ | k1
  · exact absurd HA.out (by simp [chain_Build.l0])
  have H := HA.out
  clear HA
  simp only [chain_Build.l0] at H
  by_cases c5 : x17_1 < (l1.length : Int)
  rotate_left
  · rw [if_neg c5] at H
    have c5b0 : decide (x17_1 < (l1.length : Int)) = false := decide_eq_false c5
    clear c5
    simp only [Option.some.injEq, Prod.mk.injEq] at H
    obtain ⟨rfl, rfl, rfl⟩ := H
    go_wp2
    go_ret3
    exact ⟨_, _, by (rfl), by exact HO_7.out, by exact HO_8.out, HB.out⟩


  rw [if_pos c5] at H
  have c5b0 : decide (x17_1 < (l1.length : Int)) = true := decide_eq_true c5
  clear c5
  by_cases c6 : 0 ≤ x17_1
  rotate_left
  · rw [if_neg c6] at H
    exact absurd H (by simp)
  rw [if_pos c6] at H
  have c6b0 : decide (0 ≤ x17_1) = true := decide_eq_true c6
  clear c6
  by_cases c7 : x17_1 < (l1.length : Int)
  rotate_left
  · rw [if_neg c7] at H
    exact absurd H (by simp)
  rw [if_pos c7] at H
  have c7b0 : decide (x17_1 < (l1.length : Int)) = true := decide_eq_true c7
  clear c7
  replace H := Option.bind_eq_some_iff.mp H
  obtain ⟨⟨t208, t211⟩, A80, H⟩ := H
  replace H : (if t211 = 0 then ((hmac_Tag.f k1 l0 t208).bind fun t212 => ((entry_Frame.f ((rd_T42 l1 x17_1).f0) ((rd_T42 l1 x17_1).f1) t212).bind fun bt215 => (if bt215.2 = 0 then (if x7_1.length + bt215.1.length < 140737488355328 then (chain_Build.l0 k1 l0 (x7_1 ++ bt215.1) t212 l1 (l1.length : Int) (wrap64 (x17_1 + 1))) else (none)) else (some (([] : List Int), ([] : List Int), bt215.2))))) else (some (([] : List Int), ([] : List Int), t211))) = some (r1, r2, r3) := H
  have A8 := Aside0.mk A80
  clear A80
  by_cases c9 : t211 = 0
  rotate_left
  · rw [if_neg c9] at H
    have c9b0 : (t211 == 0) = false := beq_eq_false_iff_ne.mpr c9
    have c9b1 : (t211 != 0) = true := bne_iff_ne.mpr c9
    simp only [Option.some.injEq, Prod.mk.injEq] at H
    obtain ⟨rfl, rfl, rfl⟩ := H
    have p206 : 0 ≤ (x17_1 : Int) := of_decide_eq_true (by (with_reducible assumption))
    have q206 : x17_1 < (l1.length : Int) := of_decide_eq_true (by (with_reducible assumption))
    obtain ⟨ad206, A206_1, c206_1, e206, hx206_0, hx206_1, hl206_1, hi206_1⟩ := at_T42 HR1.out x17_1 p206 q206
    cases e206
    replace hx206_0 := pw_cell_below HB.out hx206_0
    replace hx206_1 := pw_cell_below HB.out hx206_1
    have HR206_1 := Aside0.mk hi206_1
    have HC206_1 := Aside0.mk hl206_1
    clear hi206_1 hl206_1
    replace p206 := eq_true p206
    replace q206 := eq_true q206
    go_wp2_with (first | ((with_reducible refine gate_dst (N := 10) rfl ?_); refine box_event ?hg (N := 10) ?hd (cs := #[.int .i64 0, .slice none 0 0]) (t := 42) ?hr ?_; (case hd => rfl); (case hg => rfl); (case hr => (go_simp; done)); intro gb207 hg w34 hbox hb; have n0_ := Aside0.mk (Kd.R_below (by exact HO_7.out) hb); have n1_ := Aside0.mk (Kd.R_below (by exact HO_8.out) hb); have n2_ := Aside0.mk (below_step HB.out hb); have n3_ := Aside0.mk (hbox); have n4_ := Aside0.mk ((by rw [hg]; exact (below_size HB.out) : w.heap.size ≤ gb207)); have n5_ := Aside0.mk ((by rw [hg]; exact (below_size HB.out) : w.heap.size ≤ gb207)); clear HO_7; clear HO_8; clear HB; have HO_7 := n0_; have HO_8 := n1_; have HB := n2_; have BK207 := n3_; have GW207 := n4_; have GE207 := n5_; clear n0_ n1_ n2_ n3_ n4_ n5_; clear hb hbox hg; have hcz35_0 : w34.cell? ⟨gb207, 0, none⟩ = some (.int .i64 0) := (blk_cell BK207.out 0).trans rfl; have hcz35_1 : w34.cell? ⟨gb207, 1, none⟩ = some (.slice none 0 0) := (blk_cell BK207.out 1).trans rfl; have hfz35_0 := blk_frozen BK207.out 0; have hfz35_1 := blk_frozen BK207.out 1; obtain ⟨Ao36, co36, eo36⟩ := Kd.R_slice HO_8.out; subst eo36) | ((with_reducible refine gate_callee (f := 24) rfl ?_); refine goesL_ (some 28) rfl rfl Try.func24 (by kernel_rfl) rfl #[.slice Ao36 x8_1.length co36, .int .u64 (IntKind.u64.wrap ((IntKind.u64.wrap (x17_1)) + 1)), .agg #[.int .i64 ((rd_T42 l1 x17_1).f0), .slice A206_1 ((rd_T42 l1 x17_1).f1).length c206_1]] rfl (by (try simp only [List.map_toArray, List.map_cons, List.map_nil]); (rfl)) ?_; (with_reducible refine (chain_Message.calls k1 _ _ x8_1 (IntKind.u64.wrap ((IntKind.u64.wrap (x17_1)) + 1)) ((rd_T42 l1 x17_1).f0) _ _ ((rd_T42 l1 x17_1).f1) t208 t211 _ ?side1 ?side2 ?side3 ?side4 A8.out).mono ?_); (case side1 => refine (Kd.R_reads' (e := 5) (base := w.heap.size) (ok := fun k_ => some k_ ≠ (u7 : Value).ownBlock) (n := x8_1.length) (c := co36) ?_).2.2; exact (by exact (Kd.R_mono (Kd.R_far (p := ⟨gb207, 1, none⟩) (Kd.R_far (p := ⟨gb207, 0, none⟩) (Kd.R_types HO_8.out BK207.out (by decide)) (fun _ hk => hk.2) (.int .i64 ((rd_T42 l1 x17_1).f0))) (fun _ hk => hk.2) (.slice A206_1 ((rd_T42 l1 x17_1).f1).length c206_1)) (fun _ h_ => h_.1)))); (case side2 => exact (Kd.R_reads' HO_8.out).2.1); (case side3 => exact Kd.C_below HR206_1.out (by repeat (with_reducible first | exact HB.out | refine below_set ?_ GE207.out))); (case side4 => exact HC206_1.out); rintro e w37 ⟨v209, rfl, ho0, hb⟩; refine ⟨_, rfl, ?_⟩; have n0_ := Aside0.mk (Kd.R_elder' (by exact (Kd.R_mono (Kd.R_far (p := ⟨gb207, 1, none⟩) (Kd.R_far (p := ⟨gb207, 0, none⟩) (Kd.R_types HO_7.out BK207.out (by decide)) (fun _ hk => hk.2) (.int .i64 ((rd_T42 l1 x17_1).f0))) (fun _ hk => hk.2) (.slice A206_1 ((rd_T42 l1 x17_1).f1).length c206_1)) (fun _ h_ => h_.1))) (Kd.R_base ho0) hb); have n1_ := Aside0.mk (Kd.R_elder' (by exact (Kd.R_mono (Kd.R_far (p := ⟨gb207, 1, none⟩) (Kd.R_far (p := ⟨gb207, 0, none⟩) (Kd.R_types HO_8.out BK207.out (by decide)) (fun _ hk => hk.2) (.int .i64 ((rd_T42 l1 x17_1).f0))) (fun _ hk => hk.2) (.slice A206_1 ((rd_T42 l1 x17_1).f1).length c206_1)) (fun _ h_ => h_.1))) (Kd.R_base ho0) hb); have n2_ := Aside0.mk (Kd.R_lower (Kd.R_new' (Kd.R_new' ho0 (Kd.R_lt (by exact (Kd.R_mono (Kd.R_far (p := ⟨gb207, 1, none⟩) (Kd.R_far (p := ⟨gb207, 0, none⟩) (Kd.R_types HO_7.out BK207.out (by decide)) (fun _ hk => hk.2) (.int .i64 ((rd_T42 l1 x17_1).f0))) (fun _ hk => hk.2) (.slice A206_1 ((rd_T42 l1 x17_1).f1).length c206_1)) (fun _ h_ => h_.1))))) (Kd.R_lt (by exact (Kd.R_mono (Kd.R_far (p := ⟨gb207, 1, none⟩) (Kd.R_far (p := ⟨gb207, 0, none⟩) (Kd.R_types HO_8.out BK207.out (by decide)) (fun _ hk => hk.2) (.int .i64 ((rd_T42 l1 x17_1).f0))) (fun _ hk => hk.2) (.slice A206_1 ((rd_T42 l1 x17_1).f1).length c206_1)) (fun _ h_ => h_.1))))) (below_size (by repeat (with_reducible first | exact HB.out | refine below_set ?_ GE207.out)))); have n3_ := Aside0.mk (blk_below (g := gb207) (o := .cells #[.int .i64 ((rd_T42 l1 x17_1).f0), .slice A206_1 ((rd_T42 l1 x17_1).f1).length c206_1] 42 (0, 0)) (by refine blk_put (cs := #[.int .i64 ((rd_T42 l1 x17_1).f0), .slice none 0 0]) ?_ 1 _ rfl; refine blk_put (cs := #[.int .i64 0, .slice none 0 0]) ?_ 0 _ rfl; exact BK207.out) hb); have n4_ := Aside0.mk (below_step (by repeat (with_reducible first | exact HB.out | refine below_set ?_ GE207.out)) hb); clear HO_7; clear HO_8; clear BK207; clear HB; have HO_7 := n0_; have HO_8 := n1_; have HO210 := n2_; have BK207 := n3_; have HB := n4_; clear n0_ n1_ n2_ n3_ n4_; (try clear hb); (try clear ho0)))
    go_ret3
    exact ⟨_, _, by (rfl), by (exact Kd.R_nil _ _ _ _ _), by (exact Kd.R_nil _ _ _ _ _), HB.out⟩
  rw [if_pos c9] at H
  have c9b0 : (t211 == 0) = true := beq_iff_eq.mpr c9
  have c9b1 : (t211 != 0) = false := bne_eq_false_iff_eq.mpr c9
  clear c9
  replace H := Option.bind_eq_some_iff.mp H
  obtain ⟨t212, A100, H⟩ := H
  replace H : ((entry_Frame.f ((rd_T42 l1 x17_1).f0) ((rd_T42 l1 x17_1).f1) t212).bind fun bt215 => (if bt215.2 = 0 then (if x7_1.length + bt215.1.length < 140737488355328 then (chain_Build.l0 k1 l0 (x7_1 ++ bt215.1) t212 l1 (l1.length : Int) (wrap64 (x17_1 + 1))) else (none)) else (some (([] : List Int), ([] : List Int), bt215.2)))) = some (r1, r2, r3) := H
  have A10 := Aside0.mk A100
  clear A100
  replace H := Option.bind_eq_some_iff.mp H
  obtain ⟨⟨t215, t218⟩, A110, H⟩ := H
  replace H : (if t218 = 0 then (if x7_1.length + t215.length < 140737488355328 then (chain_Build.l0 k1 l0 (x7_1 ++ t215) t212 l1 (l1.length : Int) (wrap64 (x17_1 + 1))) else (none)) else (some (([] : List Int), ([] : List Int), t218))) = some (r1, r2, r3) := H
  have A11 := Aside0.mk A110
  clear A110
  by_cases c12 : t218 = 0
  rotate_left
  · rw [if_neg c12] at H
    have c12b0 : (t218 == 0) = false := beq_eq_false_iff_ne.mpr c12
    have c12b1 : (t218 != 0) = true := bne_iff_ne.mpr c12
    simp only [Option.some.injEq, Prod.mk.injEq] at H
    obtain ⟨rfl, rfl, rfl⟩ := H
    have p206 : 0 ≤ (x17_1 : Int) := of_decide_eq_true (by (with_reducible assumption))
    have q206 : x17_1 < (l1.length : Int) := of_decide_eq_true (by (with_reducible assumption))
    obtain ⟨ad206, A206_1, c206_1, e206, hx206_0, hx206_1, hl206_1, hi206_1⟩ := at_T42 HR1.out x17_1 p206 q206
    cases e206
    replace hx206_0 := pw_cell_below HB.out hx206_0
    replace hx206_1 := pw_cell_below HB.out hx206_1
    have HR206_1 := Aside0.mk hi206_1
    have HC206_1 := Aside0.mk hl206_1
    clear hi206_1 hl206_1
    replace p206 := eq_true p206
    replace q206 := eq_true q206
    go_wp2_with (first | ((with_reducible refine gate_dst (N := 10) rfl ?_); refine box_event ?hg (N := 10) ?hd (cs := #[.int .i64 0, .slice none 0 0]) (t := 42) ?hr ?_; (case hd => rfl); (case hg => rfl); (case hr => (go_simp; done)); intro gb207 hg w25 hbox hb; have n0_ := Aside0.mk (Kd.R_below (by exact HO_7.out) hb); have n1_ := Aside0.mk (Kd.R_below (by exact HO_8.out) hb); have n2_ := Aside0.mk (below_step HB.out hb); have n3_ := Aside0.mk (hbox); have n4_ := Aside0.mk ((by rw [hg]; exact (below_size HB.out) : w.heap.size ≤ gb207)); have n5_ := Aside0.mk ((by rw [hg]; exact (below_size HB.out) : w.heap.size ≤ gb207)); clear HO_7; clear HO_8; clear HB; have HO_7 := n0_; have HO_8 := n1_; have HB := n2_; have BK207 := n3_; have GW207 := n4_; have GE207 := n5_; clear n0_ n1_ n2_ n3_ n4_ n5_; clear hb hbox hg; have hcz26_0 : w25.cell? ⟨gb207, 0, none⟩ = some (.int .i64 0) := (blk_cell BK207.out 0).trans rfl; have hcz26_1 : w25.cell? ⟨gb207, 1, none⟩ = some (.slice none 0 0) := (blk_cell BK207.out 1).trans rfl; have hfz26_0 := blk_frozen BK207.out 0; have hfz26_1 := blk_frozen BK207.out 1; obtain ⟨Ao27, co27, eo27⟩ := Kd.R_slice HO_8.out; subst eo27) | ((with_reducible refine gate_callee (f := 24) rfl ?_); refine goesL_ (some 28) rfl rfl Try.func24 (by kernel_rfl) rfl #[.slice Ao27 x8_1.length co27, .int .u64 (IntKind.u64.wrap ((IntKind.u64.wrap (x17_1)) + 1)), .agg #[.int .i64 ((rd_T42 l1 x17_1).f0), .slice A206_1 ((rd_T42 l1 x17_1).f1).length c206_1]] rfl (by (try simp only [List.map_toArray, List.map_cons, List.map_nil]); (rfl)) ?_; (with_reducible refine (chain_Message.calls k1 _ _ x8_1 (IntKind.u64.wrap ((IntKind.u64.wrap (x17_1)) + 1)) ((rd_T42 l1 x17_1).f0) _ _ ((rd_T42 l1 x17_1).f1) t208 t211 _ ?side1 ?side2 ?side3 ?side4 A8.out).mono ?_); (case side1 => refine (Kd.R_reads' (e := 5) (base := w.heap.size) (ok := fun k_ => some k_ ≠ (u7 : Value).ownBlock) (n := x8_1.length) (c := co27) ?_).2.2; exact (by exact (Kd.R_mono (Kd.R_far (p := ⟨gb207, 1, none⟩) (Kd.R_far (p := ⟨gb207, 0, none⟩) (Kd.R_types HO_8.out BK207.out (by decide)) (fun _ hk => hk.2) (.int .i64 ((rd_T42 l1 x17_1).f0))) (fun _ hk => hk.2) (.slice A206_1 ((rd_T42 l1 x17_1).f1).length c206_1)) (fun _ h_ => h_.1)))); (case side2 => exact (Kd.R_reads' HO_8.out).2.1); (case side3 => exact Kd.C_below HR206_1.out (by repeat (with_reducible first | exact HB.out | refine below_set ?_ GE207.out))); (case side4 => exact HC206_1.out); rintro e w28 ⟨v209, rfl, ho0, hb⟩; refine ⟨_, rfl, ?_⟩; have n0_ := Aside0.mk (Kd.R_elder' (by exact (Kd.R_mono (Kd.R_far (p := ⟨gb207, 1, none⟩) (Kd.R_far (p := ⟨gb207, 0, none⟩) (Kd.R_types HO_7.out BK207.out (by decide)) (fun _ hk => hk.2) (.int .i64 ((rd_T42 l1 x17_1).f0))) (fun _ hk => hk.2) (.slice A206_1 ((rd_T42 l1 x17_1).f1).length c206_1)) (fun _ h_ => h_.1))) (Kd.R_base ho0) hb); have n1_ := Aside0.mk (Kd.R_elder' (by exact (Kd.R_mono (Kd.R_far (p := ⟨gb207, 1, none⟩) (Kd.R_far (p := ⟨gb207, 0, none⟩) (Kd.R_types HO_8.out BK207.out (by decide)) (fun _ hk => hk.2) (.int .i64 ((rd_T42 l1 x17_1).f0))) (fun _ hk => hk.2) (.slice A206_1 ((rd_T42 l1 x17_1).f1).length c206_1)) (fun _ h_ => h_.1))) (Kd.R_base ho0) hb); have n2_ := Aside0.mk (Kd.R_lower (Kd.R_new' (Kd.R_new' ho0 (Kd.R_lt (by exact (Kd.R_mono (Kd.R_far (p := ⟨gb207, 1, none⟩) (Kd.R_far (p := ⟨gb207, 0, none⟩) (Kd.R_types HO_7.out BK207.out (by decide)) (fun _ hk => hk.2) (.int .i64 ((rd_T42 l1 x17_1).f0))) (fun _ hk => hk.2) (.slice A206_1 ((rd_T42 l1 x17_1).f1).length c206_1)) (fun _ h_ => h_.1))))) (Kd.R_lt (by exact (Kd.R_mono (Kd.R_far (p := ⟨gb207, 1, none⟩) (Kd.R_far (p := ⟨gb207, 0, none⟩) (Kd.R_types HO_8.out BK207.out (by decide)) (fun _ hk => hk.2) (.int .i64 ((rd_T42 l1 x17_1).f0))) (fun _ hk => hk.2) (.slice A206_1 ((rd_T42 l1 x17_1).f1).length c206_1)) (fun _ h_ => h_.1))))) (below_size (by repeat (with_reducible first | exact HB.out | refine below_set ?_ GE207.out)))); have n3_ := Aside0.mk (blk_below (g := gb207) (o := .cells #[.int .i64 ((rd_T42 l1 x17_1).f0), .slice A206_1 ((rd_T42 l1 x17_1).f1).length c206_1] 42 (0, 0)) (by refine blk_put (cs := #[.int .i64 ((rd_T42 l1 x17_1).f0), .slice none 0 0]) ?_ 1 _ rfl; refine blk_put (cs := #[.int .i64 0, .slice none 0 0]) ?_ 0 _ rfl; exact BK207.out) hb); have n4_ := Aside0.mk (below_step (by repeat (with_reducible first | exact HB.out | refine below_set ?_ GE207.out)) hb); clear HO_7; clear HO_8; clear BK207; clear HB; have HO_7 := n0_; have HO_8 := n1_; have HO210 := n2_; have BK207 := n3_; have HB := n4_; clear n0_ n1_ n2_ n3_ n4_; (try clear hb); (try clear ho0); obtain ⟨Ao29, co29, eo29⟩ := Kd.R_slice HO210.out; subst eo29) | ((with_reducible refine gate_callee (f := 16) rfl ?_); refine goesL_ (some 36) rfl rfl Try.func16 (by kernel_rfl) rfl #[.slice A0 l0.length c0, .slice Ao29 t208.length co29] rfl (by (try simp only [List.map_toArray, List.map_cons, List.map_nil]); (rfl)) ?_; (with_reducible refine (hmac_Tag.calls k1 _ _ l0 _ _ t208 t212 _ ?side1 ?side2 ?side3 ?side4 A10.out).mono ?_); (case side1 => exact Kd.C_below HR0.out HB.out); (case side2 => exact HC0.out); (case side3 => repeat ((exact (Kd.R_reads' HO210.out).2.2))); (case side4 => exact (Kd.R_reads' HO210.out).2.1); rintro e w30 ⟨v213, rfl, ho0, hb⟩; refine ⟨_, rfl, ?_⟩; have n0_ := Aside0.mk (Kd.R_elder' (by exact HO_7.out) (Kd.R_base ho0) hb); have n1_ := Aside0.mk (Kd.R_elder' (by exact HO_8.out) (Kd.R_base ho0) hb); have n2_ := Aside0.mk (Kd.R_elder' (by exact HO210.out) (Kd.R_base ho0) hb); have n3_ := Aside0.mk (Kd.R_lower (Kd.R_new' (Kd.R_new' (Kd.R_new' ho0 (Kd.R_lt (by exact HO_7.out))) (Kd.R_lt (by exact HO_8.out))) (Kd.R_lt (by exact HO210.out))) (below_size HB.out)); have n4_ := Aside0.mk (blk_below (g := gb207) (o := .cells #[.int .i64 ((rd_T42 l1 x17_1).f0), .slice A206_1 ((rd_T42 l1 x17_1).f1).length c206_1] 42 (0, 0)) (by exact BK207.out) hb); have n5_ := Aside0.mk (below_step HB.out hb); clear HO_7; clear HO_8; clear HO210; clear BK207; clear HB; have HO_7 := n0_; have HO_8 := n1_; have HO210 := n2_; have HO214 := n3_; have BK207 := n4_; have HB := n5_; clear n0_ n1_ n2_ n3_ n4_ n5_; (try clear hb); (try clear ho0); have hcz31_0 : w30.cell? ⟨gb207, 0, none⟩ = some (.int .i64 ((rd_T42 l1 x17_1).f0)) := (blk_cell BK207.out 0).trans rfl; have hcz31_1 : w30.cell? ⟨gb207, 1, none⟩ = some (.slice A206_1 ((rd_T42 l1 x17_1).f1).length c206_1) := (blk_cell BK207.out 1).trans rfl; have hfz31_0 := blk_frozen BK207.out 0; have hfz31_1 := blk_frozen BK207.out 1; obtain ⟨Ao32, co32, eo32⟩ := Kd.R_slice HO214.out; subst eo32) | ((with_reducible refine gate_callee (f := 41) rfl ?_); refine goesL_ (some 40) rfl rfl Try.func41 (by kernel_rfl) rfl #[.agg #[.int .i64 ((rd_T42 l1 x17_1).f0), .slice A206_1 ((rd_T42 l1 x17_1).f1).length c206_1], .slice Ao32 t212.length co32] rfl (by (try simp only [List.map_toArray, List.map_cons, List.map_nil]); (rfl)) ?_; (with_reducible refine (entry_Frame.calls ((rd_T42 l1 x17_1).f0) _ _ ((rd_T42 l1 x17_1).f1) _ _ t212 t215 t218 _ ?side1 ?side2 ?side3 ?side4 A11.out).mono ?_); (case side1 => exact Kd.C_below HR206_1.out HB.out); (case side2 => exact HC206_1.out); (case side3 => repeat ((exact (Kd.R_reads' HO214.out).2.2))); (case side4 => exact (Kd.R_reads' HO214.out).2.1); rintro e w33 ⟨v216, rfl, ho0, hb⟩; refine ⟨_, rfl, ?_⟩; have n0_ := Aside0.mk (Kd.R_elder' (by exact HO_7.out) (Kd.R_base ho0) hb); have n1_ := Aside0.mk (Kd.R_elder' (by exact HO_8.out) (Kd.R_base ho0) hb); have n2_ := Aside0.mk (Kd.R_elder' (by exact HO210.out) (Kd.R_base ho0) hb); have n3_ := Aside0.mk (Kd.R_elder' (by exact HO214.out) (Kd.R_base ho0) hb); have n4_ := Aside0.mk (Kd.R_lower (Kd.R_new' (Kd.R_new' (Kd.R_new' (Kd.R_new' ho0 (Kd.R_lt (by exact HO_7.out))) (Kd.R_lt (by exact HO_8.out))) (Kd.R_lt (by exact HO210.out))) (Kd.R_lt (by exact HO214.out))) (below_size HB.out)); have n5_ := Aside0.mk (blk_below (g := gb207) (o := .cells #[.int .i64 ((rd_T42 l1 x17_1).f0), .slice A206_1 ((rd_T42 l1 x17_1).f1).length c206_1] 42 (0, 0)) (by exact BK207.out) hb); have n6_ := Aside0.mk (below_step HB.out hb); clear HO_7; clear HO_8; clear HO210; clear HO214; clear BK207; clear HB; have HO_7 := n0_; have HO_8 := n1_; have HO210 := n2_; have HO214 := n3_; have HO217 := n4_; have BK207 := n5_; have HB := n6_; clear n0_ n1_ n2_ n3_ n4_ n5_ n6_; (try clear hb); (try clear ho0)))
    go_ret3
    exact ⟨_, _, by (rfl), by (exact Kd.R_nil _ _ _ _ _), by (exact Kd.R_nil _ _ _ _ _), HB.out⟩
  rw [if_pos c12] at H
  have c12b0 : (t218 == 0) = true := beq_iff_eq.mpr c12
  have c12b1 : (t218 != 0) = false := bne_eq_false_iff_eq.mpr c12
  clear c12
  by_cases c13 : x7_1.length + t215.length < 140737488355328
  rotate_left
  · rw [if_neg c13] at H
    exact absurd H (by simp)
  rw [if_pos c13] at H
  have LMc13 := Aside0.mk c13
  clear c13
  obtain ⟨y219, hy219⟩ : ∃ y_ : List Int, y_ = (x7_1 ++ t215) := ⟨_, rfl⟩
  replace H : (chain_Build.l0 k1 l0 y219 t212 l1 (l1.length : Int) (wrap64 (x17_1 + 1))) = some (r1, r2, r3) := by (rw [hy219]; with_reducible exact H)
  have Ny219 := Aside0.mk hy219
  clear hy219
  have H' := Aside0.mk H
  clear H
  have p206 : 0 ≤ (x17_1 : Int) := of_decide_eq_true (by (with_reducible assumption))
  have q206 : x17_1 < (l1.length : Int) := of_decide_eq_true (by (with_reducible assumption))
  obtain ⟨ad206, A206_1, c206_1, e206, hx206_0, hx206_1, hl206_1, hi206_1⟩ := at_T42 HR1.out x17_1 p206 q206
  cases e206
  replace hx206_0 := pw_cell_below HB.out hx206_0
  replace hx206_1 := pw_cell_below HB.out hx206_1
  have HR206_1 := Aside0.mk hi206_1
  have HC206_1 := Aside0.mk hl206_1
  clear hi206_1 hl206_1
  replace p206 := eq_true p206
  replace q206 := eq_true q206
  go_wp2_with (first | ((with_reducible refine gate_dst (N := 10) rfl ?_); refine box_event ?hg (N := 10) ?hd (cs := #[.int .i64 0, .slice none 0 0]) (t := 42) ?hr ?_; (case hd => rfl); (case hg => rfl); (case hr => (go_simp; done)); intro gb207 hg w14 hbox hb; have n0_ := Aside0.mk (Kd.R_below (by exact HO_7.out) hb); have n1_ := Aside0.mk (Kd.R_below (by exact HO_8.out) hb); have n2_ := Aside0.mk (below_step HB.out hb); have n3_ := Aside0.mk (hbox); have n4_ := Aside0.mk ((by rw [hg]; exact (below_size HB.out) : w.heap.size ≤ gb207)); have n5_ := Aside0.mk ((by rw [hg]; exact (below_size HB.out) : w.heap.size ≤ gb207)); clear HO_7; clear HO_8; clear HB; have HO_7 := n0_; have HO_8 := n1_; have HB := n2_; have BK207 := n3_; have GW207 := n4_; have GE207 := n5_; clear n0_ n1_ n2_ n3_ n4_ n5_; clear hb hbox hg; have hcz15_0 : w14.cell? ⟨gb207, 0, none⟩ = some (.int .i64 0) := (blk_cell BK207.out 0).trans rfl; have hcz15_1 : w14.cell? ⟨gb207, 1, none⟩ = some (.slice none 0 0) := (blk_cell BK207.out 1).trans rfl; have hfz15_0 := blk_frozen BK207.out 0; have hfz15_1 := blk_frozen BK207.out 1; obtain ⟨Ao16, co16, eo16⟩ := Kd.R_slice HO_8.out; subst eo16) | ((with_reducible refine gate_callee (f := 24) rfl ?_); refine goesL_ (some 28) rfl rfl Try.func24 (by kernel_rfl) rfl #[.slice Ao16 x8_1.length co16, .int .u64 (IntKind.u64.wrap ((IntKind.u64.wrap (x17_1)) + 1)), .agg #[.int .i64 ((rd_T42 l1 x17_1).f0), .slice A206_1 ((rd_T42 l1 x17_1).f1).length c206_1]] rfl (by (try simp only [List.map_toArray, List.map_cons, List.map_nil]); (rfl)) ?_; (with_reducible refine (chain_Message.calls k1 _ _ x8_1 (IntKind.u64.wrap ((IntKind.u64.wrap (x17_1)) + 1)) ((rd_T42 l1 x17_1).f0) _ _ ((rd_T42 l1 x17_1).f1) t208 t211 _ ?side1 ?side2 ?side3 ?side4 A8.out).mono ?_); (case side1 => refine (Kd.R_reads' (e := 5) (base := w.heap.size) (ok := fun k_ => some k_ ≠ (u7 : Value).ownBlock) (n := x8_1.length) (c := co16) ?_).2.2; exact (by exact (Kd.R_mono (Kd.R_far (p := ⟨gb207, 1, none⟩) (Kd.R_far (p := ⟨gb207, 0, none⟩) (Kd.R_types HO_8.out BK207.out (by decide)) (fun _ hk => hk.2) (.int .i64 ((rd_T42 l1 x17_1).f0))) (fun _ hk => hk.2) (.slice A206_1 ((rd_T42 l1 x17_1).f1).length c206_1)) (fun _ h_ => h_.1)))); (case side2 => exact (Kd.R_reads' HO_8.out).2.1); (case side3 => exact Kd.C_below HR206_1.out (by repeat (with_reducible first | exact HB.out | refine below_set ?_ GE207.out))); (case side4 => exact HC206_1.out); rintro e w17 ⟨v209, rfl, ho0, hb⟩; refine ⟨_, rfl, ?_⟩; have n0_ := Aside0.mk (Kd.R_elder' (by exact (Kd.R_mono (Kd.R_far (p := ⟨gb207, 1, none⟩) (Kd.R_far (p := ⟨gb207, 0, none⟩) (Kd.R_types HO_7.out BK207.out (by decide)) (fun _ hk => hk.2) (.int .i64 ((rd_T42 l1 x17_1).f0))) (fun _ hk => hk.2) (.slice A206_1 ((rd_T42 l1 x17_1).f1).length c206_1)) (fun _ h_ => h_.1))) (Kd.R_base ho0) hb); have n1_ := Aside0.mk (Kd.R_elder' (by exact (Kd.R_mono (Kd.R_far (p := ⟨gb207, 1, none⟩) (Kd.R_far (p := ⟨gb207, 0, none⟩) (Kd.R_types HO_8.out BK207.out (by decide)) (fun _ hk => hk.2) (.int .i64 ((rd_T42 l1 x17_1).f0))) (fun _ hk => hk.2) (.slice A206_1 ((rd_T42 l1 x17_1).f1).length c206_1)) (fun _ h_ => h_.1))) (Kd.R_base ho0) hb); have n2_ := Aside0.mk (Kd.R_lower (Kd.R_new' (Kd.R_new' ho0 (Kd.R_lt (by exact (Kd.R_mono (Kd.R_far (p := ⟨gb207, 1, none⟩) (Kd.R_far (p := ⟨gb207, 0, none⟩) (Kd.R_types HO_7.out BK207.out (by decide)) (fun _ hk => hk.2) (.int .i64 ((rd_T42 l1 x17_1).f0))) (fun _ hk => hk.2) (.slice A206_1 ((rd_T42 l1 x17_1).f1).length c206_1)) (fun _ h_ => h_.1))))) (Kd.R_lt (by exact (Kd.R_mono (Kd.R_far (p := ⟨gb207, 1, none⟩) (Kd.R_far (p := ⟨gb207, 0, none⟩) (Kd.R_types HO_8.out BK207.out (by decide)) (fun _ hk => hk.2) (.int .i64 ((rd_T42 l1 x17_1).f0))) (fun _ hk => hk.2) (.slice A206_1 ((rd_T42 l1 x17_1).f1).length c206_1)) (fun _ h_ => h_.1))))) (below_size (by repeat (with_reducible first | exact HB.out | refine below_set ?_ GE207.out)))); have n3_ := Aside0.mk (blk_below (g := gb207) (o := .cells #[.int .i64 ((rd_T42 l1 x17_1).f0), .slice A206_1 ((rd_T42 l1 x17_1).f1).length c206_1] 42 (0, 0)) (by refine blk_put (cs := #[.int .i64 ((rd_T42 l1 x17_1).f0), .slice none 0 0]) ?_ 1 _ rfl; refine blk_put (cs := #[.int .i64 0, .slice none 0 0]) ?_ 0 _ rfl; exact BK207.out) hb); have n4_ := Aside0.mk (below_step (by repeat (with_reducible first | exact HB.out | refine below_set ?_ GE207.out)) hb); clear HO_7; clear HO_8; clear BK207; clear HB; have HO_7 := n0_; have HO_8 := n1_; have HO210 := n2_; have BK207 := n3_; have HB := n4_; clear n0_ n1_ n2_ n3_ n4_; (try clear hb); (try clear ho0); obtain ⟨Ao18, co18, eo18⟩ := Kd.R_slice HO210.out; subst eo18) | ((with_reducible refine gate_callee (f := 16) rfl ?_); refine goesL_ (some 36) rfl rfl Try.func16 (by kernel_rfl) rfl #[.slice A0 l0.length c0, .slice Ao18 t208.length co18] rfl (by (try simp only [List.map_toArray, List.map_cons, List.map_nil]); (rfl)) ?_; (with_reducible refine (hmac_Tag.calls k1 _ _ l0 _ _ t208 t212 _ ?side1 ?side2 ?side3 ?side4 A10.out).mono ?_); (case side1 => exact Kd.C_below HR0.out HB.out); (case side2 => exact HC0.out); (case side3 => repeat ((exact (Kd.R_reads' HO210.out).2.2))); (case side4 => exact (Kd.R_reads' HO210.out).2.1); rintro e w19 ⟨v213, rfl, ho0, hb⟩; refine ⟨_, rfl, ?_⟩; have n0_ := Aside0.mk (Kd.R_elder' (by exact HO_7.out) (Kd.R_base ho0) hb); have n1_ := Aside0.mk (Kd.R_elder' (by exact HO_8.out) (Kd.R_base ho0) hb); have n2_ := Aside0.mk (Kd.R_elder' (by exact HO210.out) (Kd.R_base ho0) hb); have n3_ := Aside0.mk (Kd.R_lower (Kd.R_new' (Kd.R_new' (Kd.R_new' ho0 (Kd.R_lt (by exact HO_7.out))) (Kd.R_lt (by exact HO_8.out))) (Kd.R_lt (by exact HO210.out))) (below_size HB.out)); have n4_ := Aside0.mk (blk_below (g := gb207) (o := .cells #[.int .i64 ((rd_T42 l1 x17_1).f0), .slice A206_1 ((rd_T42 l1 x17_1).f1).length c206_1] 42 (0, 0)) (by exact BK207.out) hb); have n5_ := Aside0.mk (below_step HB.out hb); clear HO_7; clear HO_8; clear HO210; clear BK207; clear HB; have HO_7 := n0_; have HO_8 := n1_; have HO210 := n2_; have HO214 := n3_; have BK207 := n4_; have HB := n5_; clear n0_ n1_ n2_ n3_ n4_ n5_; (try clear hb); (try clear ho0); have hcz20_0 : w19.cell? ⟨gb207, 0, none⟩ = some (.int .i64 ((rd_T42 l1 x17_1).f0)) := (blk_cell BK207.out 0).trans rfl; have hcz20_1 : w19.cell? ⟨gb207, 1, none⟩ = some (.slice A206_1 ((rd_T42 l1 x17_1).f1).length c206_1) := (blk_cell BK207.out 1).trans rfl; have hfz20_0 := blk_frozen BK207.out 0; have hfz20_1 := blk_frozen BK207.out 1; obtain ⟨Ao21, co21, eo21⟩ := Kd.R_slice HO214.out; subst eo21) | ((with_reducible refine gate_callee (f := 41) rfl ?_); refine goesL_ (some 40) rfl rfl Try.func41 (by kernel_rfl) rfl #[.agg #[.int .i64 ((rd_T42 l1 x17_1).f0), .slice A206_1 ((rd_T42 l1 x17_1).f1).length c206_1], .slice Ao21 t212.length co21] rfl (by (try simp only [List.map_toArray, List.map_cons, List.map_nil]); (rfl)) ?_; (with_reducible refine (entry_Frame.calls ((rd_T42 l1 x17_1).f0) _ _ ((rd_T42 l1 x17_1).f1) _ _ t212 t215 t218 _ ?side1 ?side2 ?side3 ?side4 A11.out).mono ?_); (case side1 => exact Kd.C_below HR206_1.out HB.out); (case side2 => exact HC206_1.out); (case side3 => repeat ((exact (Kd.R_reads' HO214.out).2.2))); (case side4 => exact (Kd.R_reads' HO214.out).2.1); rintro e w22 ⟨v216, rfl, ho0, hb⟩; refine ⟨_, rfl, ?_⟩; have n0_ := Aside0.mk (Kd.R_elder' (by exact HO_7.out) (Kd.R_base ho0) hb); have n1_ := Aside0.mk (Kd.R_elder' (by exact HO_8.out) (Kd.R_base ho0) hb); have n2_ := Aside0.mk (Kd.R_elder' (by exact HO210.out) (Kd.R_base ho0) hb); have n3_ := Aside0.mk (Kd.R_elder' (by exact HO214.out) (Kd.R_base ho0) hb); have n4_ := Aside0.mk (Kd.R_lower (Kd.R_new' (Kd.R_new' (Kd.R_new' (Kd.R_new' ho0 (Kd.R_lt (by exact HO_7.out))) (Kd.R_lt (by exact HO_8.out))) (Kd.R_lt (by exact HO210.out))) (Kd.R_lt (by exact HO214.out))) (below_size HB.out)); have n5_ := Aside0.mk (blk_below (g := gb207) (o := .cells #[.int .i64 ((rd_T42 l1 x17_1).f0), .slice A206_1 ((rd_T42 l1 x17_1).f1).length c206_1] 42 (0, 0)) (by exact BK207.out) hb); have n6_ := Aside0.mk (below_step HB.out hb); clear HO_7; clear HO_8; clear HO210; clear HO214; clear BK207; clear HB; have HO_7 := n0_; have HO_8 := n1_; have HO210 := n2_; have HO214 := n3_; have HO217 := n4_; have BK207 := n5_; have HB := n6_; clear n0_ n1_ n2_ n3_ n4_ n5_ n6_; (try clear hb); (try clear ho0); obtain ⟨Ao24, co24, eo24⟩ := Kd.R_slice HO217.out; subst eo24) | ((with_reducible refine gate_builtin (b := .append) (xs := #[.tmp 46, .tmp 47]) rfl ?_); at_builtin; refine Kd.R_append_rows (Kd.int .u8) (w0 := w) w.heap.size rfl (.tmp 46) (.tmp 47) 22 5 (.int .u8 0) 1 rfl Try.underlying22 info5 rfl (by decide) (by omega) u7 x7_1 t215 _ _ _ (fun k_ => some k_ ≠ (.slice Ao16 x8_1.length co16 : Value).ownBlock ∧ some k_ ≠ (.slice Ao18 t208.length co18 : Value).ownBlock ∧ some k_ ≠ (.slice Ao21 t212.length co21 : Value).ownBlock ∧ some k_ ≠ (.slice Ao24 t215.length co24 : Value).ownBlock) (fun _ => False) rfl rfl ?aO ?aR (fun _ _ h => h) (fun _ h => h.elim) ?aF ?aB ?aS ?aL ?_; (case aR => repeat ((exact (Kd.R_reads' HO217.out).2.2))); (case aB => exact HB.out); (case aF => exact (fun k_ hk => ⟨Kd.fresh' (Kd.R_lt (by exact HO_8.out)) k_ hk, Kd.fresh' (Kd.R_lt (by exact HO210.out)) k_ hk, Kd.fresh' (Kd.R_lt (by exact HO214.out)) k_ hk, Kd.fresh' (Kd.R_lt (by exact HO217.out)) k_ hk⟩)); (case aO => exact (by exact Kd.R_mono HO_7.out (fun _ hk => ⟨hk.1.1.1, ⟨hk.1.1.2, ⟨hk.1.2, hk.2⟩⟩⟩))); (case aS => exact (below_size HB.out)); (case aL => have := LMc13.out; omega); intro v220 w23 ho hb hg hat; rw [← Ny219.out] at ho; have n0_ := Aside0.mk (Kd.R_after (ok := (fun k_ => some k_ ≠ (.slice Ao18 t208.length co18 : Value).ownBlock ∧ some k_ ≠ (.slice Ao21 t212.length co21 : Value).ownBlock ∧ some k_ ≠ (.slice Ao24 t215.length co24 : Value).ownBlock)) (by exact Kd.R_mono HO_8.out (fun _ hk => ⟨⟨hk.1.1.2, ⟨hk.1.2, hk.2⟩⟩, hk.1.1.1⟩)) hg hat); have n1_ := Aside0.mk (blk_grown (g := gb207) (o := .cells #[.int .i64 ((rd_T42 l1 x17_1).f0), .slice A206_1 ((rd_T42 l1 x17_1).f1).length c206_1] 42 (0, 0)) (by exact BK207.out) hg (Kd.R_ne HO_7.out BK207.out (by decide))); have n2_ := Aside0.mk (Kd.R_after (ok := (fun k_ => some k_ ≠ (.slice Ao16 x8_1.length co16 : Value).ownBlock ∧ some k_ ≠ (.slice Ao21 t212.length co21 : Value).ownBlock ∧ some k_ ≠ (.slice Ao24 t215.length co24 : Value).ownBlock)) (by exact Kd.R_mono HO210.out (fun _ hk => ⟨⟨hk.1.1.2, ⟨hk.1.2, hk.2⟩⟩, hk.1.1.1.2⟩)) hg hat); have n3_ := Aside0.mk (Kd.R_after (ok := (fun k_ => some k_ ≠ (.slice Ao16 x8_1.length co16 : Value).ownBlock ∧ some k_ ≠ (.slice Ao18 t208.length co18 : Value).ownBlock ∧ some k_ ≠ (.slice Ao24 t215.length co24 : Value).ownBlock)) (by exact Kd.R_mono HO214.out (fun _ hk => ⟨⟨hk.1.1.2, ⟨hk.1.2, hk.2⟩⟩, hk.1.1.1.2⟩)) hg hat); have n4_ := Aside0.mk (Kd.R_after (ok := (fun k_ => some k_ ≠ (.slice Ao16 x8_1.length co16 : Value).ownBlock ∧ some k_ ≠ (.slice Ao18 t208.length co18 : Value).ownBlock ∧ some k_ ≠ (.slice Ao21 t212.length co21 : Value).ownBlock)) (by exact Kd.R_mono HO217.out (fun _ hk => ⟨⟨hk.1.1.2, ⟨hk.1.2, hk.2⟩⟩, hk.1.1.1.2⟩)) hg hat); have n5_ := Aside0.mk (hb); have n6_ := Aside0.mk (ho); clear HO_8; clear BK207; clear HO210; clear HO214; clear HO217; clear HB; clear HO_7; have HO_8 := n0_; have BK207 := n1_; have HO210 := n2_; have HO214 := n3_; have HO217 := n4_; have HB := n5_; have HO221 := n6_; clear n0_ n1_ n2_ n3_ n4_ n5_ n6_; clear ho hb hg hat))
  go_roundg k1
  case measure => have := HK1.out; omega
  case rel => exact ⟨(y219), (t212), (wrap64 (x17_1 + 1)), (by (rfl)), H', ⟨by have := HK1.out; omega⟩, ⟨by exact Kd.R_mono HO221.out (fun _ hk => hk.2.2.1)⟩, ⟨by exact Kd.R_mono HO214.out (fun _ hk => hk.2)⟩, ⟨HB.out⟩⟩/-! ### notaryref46_Frame: function 39 -/
def notaryref46_Frame.f (k : Nat) (a0_0 : Int) (l0_1 : List Int) (l1 : List Int) : Option (List Int × Int) := (notaryref46_Payload.f k a0_0 l0_1).bind fun bt223 => (if bt223.2 = 0 then (if (l1.length : Int) = 32 then ((some (([0, 0, (wrap64 ((bt223.1.length : Int) / 256)) % 256, (bt223.1.length : Int) % 256] : List Int) : List Int)).bind fun y227 => (if y227.length + bt223.1.length < 140737488355328 then ((some (y227 ++ bt223.1 : List Int)).bind fun y230 => (if y230.length + l1.length < 140737488355328 then (some ((y230 ++ l1), 0)) else (none))) else (none))) else (some (([] : List Int), 2))) else (some (([] : List Int), bt223.2)))
theorem notaryref46_Frame.mono : ∀ a0 a1 a2 k, LeO (notaryref46_Frame.f k a0 a1 a2) (notaryref46_Frame.f (k + 1) a0 a1 a2) := by
  intro a0 a1 a2 k
  unfold notaryref46_Frame.f
  repeat' first | (with_reducible exact notaryref46_Payload.mono _ _ _) | (with_reducible exact LeO.refl _) | (with_reducible refine LeO.bind ?_ (fun _ => ?_))
set_option maxHeartbeats 8000000 in
set_option maxRecDepth 100000 in
theorem notaryref46_Frame.calls (k : Nat) (a0_0 : Int) (A0_1 : Option Addr) (c0_1 : Nat) (l0_1 : List Int) (A1 : Option Addr) (c1 : Nat) (l1 : List Int) (r1 : List Int) (r2 : Int) (w : World) (hr0_1 : Kd.C (Kd.int .u8) w A0_1 l0_1.length l0_1) (hc0_1 : l0_1.length ≤ c0_1) (hr1 : Kd.C (Kd.int .u8) w A1 l1.length l1) (hc1 : l1.length ≤ c1) (h : notaryref46_Frame.f k a0_0 l0_1 l1 = some (r1, r2)) :
    Calls Try.prog 39 #[.agg #[.int .i64 a0_0, .slice A0_1 l0_1.length c0_1], .slice A1 l1.length c1] w fun e w' => ∃ v0_ : Value, e = .returned (.tuple #[v0_, .int .i64 r2]) ∧ Kd.R (Kd.int .u8) 5 w' w.heap.size (fun _ => True) v0_ r1 ∧ Below w.heap.size w w' := by
  have hu42 := Try.underlying42
  have HR0_1 := Aside0.mk hr0_1
  have HC0_1 := Aside0.mk hc0_1
  clear hr0_1 hc0_1
  have HR1 := Aside0.mk hr1
  have HC1 := Aside0.mk hc1
  clear hr1 hc1
  have HB := Aside0.mk (Below.refl w.heap.size w)
  have H : ((notaryref46_Payload.f k a0_0 l0_1).bind fun bt223 => (if bt223.2 = 0 then (if (l1.length : Int) = 32 then ((some (([0, 0, (wrap64 ((bt223.1.length : Int) / 256)) % 256, (bt223.1.length : Int) % 256] : List Int) : List Int)).bind fun y227 => (if y227.length + bt223.1.length < 140737488355328 then ((some (y227 ++ bt223.1 : List Int)).bind fun y230 => (if y230.length + l1.length < 140737488355328 then (some ((y230 ++ l1), 0)) else (none))) else (none))) else (some (([] : List Int), 2))) else (some (([] : List Int), bt223.2)))) = some (r1, r2) := h
  clear h
  replace H := Option.bind_eq_some_iff.mp H
  obtain ⟨⟨t223, t226⟩, A30, H⟩ := H
  replace H : (if t226 = 0 then (if (l1.length : Int) = 32 then ((some (([0, 0, (wrap64 ((t223.length : Int) / 256)) % 256, (t223.length : Int) % 256] : List Int) : List Int)).bind fun y227 => (if y227.length + t223.length < 140737488355328 then ((some (y227 ++ t223 : List Int)).bind fun y230 => (if y230.length + l1.length < 140737488355328 then (some ((y230 ++ l1), 0)) else (none))) else (none))) else (some (([] : List Int), 2))) else (some (([] : List Int), t226))) = some (r1, r2) := H
  have A3 := Aside0.mk A30
  clear A30
  by_cases c4 : t226 = 0
  rotate_left
  · rw [if_neg c4] at H
    have c4b0 : (t226 == 0) = false := beq_eq_false_iff_ne.mpr c4
    have c4b1 : (t226 != 0) = true := bne_iff_ne.mpr c4
    obtain ⟨y239, hy239⟩ : ∃ y_ : List Int, y_ = ([] : List Int) := ⟨_, rfl⟩
    replace H : (some (y239, t226)) = some (r1, r2) := by (rw [hy239]; with_reducible exact H)
    have Ny239 := Aside0.mk hy239
    clear hy239
    simp only [Option.some.injEq, Prod.mk.injEq] at H
    obtain ⟨rfl, rfl⟩ := H
    go_enter Try.func39, Try.ntmps39
    go_wp2_with (first | ((with_reducible refine gate_dst (N := 2) rfl ?_); refine box_event ?hg (N := 2) ?hd (cs := #[.int .i64 a0_0, .slice A0_1 l0_1.length c0_1]) (t := 42) ?hr ?_; (case hd => rfl); (case hg => rfl); (case hr => (go_simp; done)); intro gb222 hg w21 hbox hb; have n0_ := Aside0.mk (below_step HB.out hb); have n1_ := Aside0.mk (hbox); have n2_ := Aside0.mk ((by rw [hg]; exact (below_size HB.out) : w.heap.size ≤ gb222)); have n3_ := Aside0.mk ((by rw [hg]; exact (below_size HB.out) : w.heap.size ≤ gb222)); clear HB; have HB := n0_; have BK222 := n1_; have GW222 := n2_; have GE222 := n3_; clear n0_ n1_ n2_ n3_; clear hb hbox hg; have hcz22_0 : w21.cell? ⟨gb222, 0, none⟩ = some (.int .i64 a0_0) := (blk_cell BK222.out 0).trans rfl; have hcz22_1 : w21.cell? ⟨gb222, 1, none⟩ = some (.slice A0_1 l0_1.length c0_1) := (blk_cell BK222.out 1).trans rfl; have hfz22_0 := blk_frozen BK222.out 0; have hfz22_1 := blk_frozen BK222.out 1) | ((with_reducible refine gate_callee (f := 40) rfl ?_); refine goesL_ (some 12) rfl rfl Try.func40 (by kernel_rfl) rfl #[.agg #[.int .i64 a0_0, .slice A0_1 l0_1.length c0_1]] rfl (by (try simp only [List.map_toArray, List.map_cons, List.map_nil]); (rfl)) ?_; (with_reducible refine (notaryref46_Payload.calls k a0_0 _ _ l0_1 t223 t226 _ ?side1 ?side2 A3.out).mono ?_); (case side1 => exact Kd.C_below HR0_1.out HB.out); (case side2 => exact HC0_1.out); rintro e w23 ⟨v224, rfl, ho0, hb⟩; refine ⟨_, rfl, ?_⟩; have n0_ := Aside0.mk (Kd.R_lower ho0 (below_size HB.out)); have n1_ := Aside0.mk (blk_below (g := gb222) (o := .cells #[.int .i64 a0_0, .slice A0_1 l0_1.length c0_1] 42 (0, 0)) (by exact BK222.out) hb); have n2_ := Aside0.mk (below_step HB.out hb); clear BK222; clear HB; have HO225 := n0_; have BK222 := n1_; have HB := n2_; clear n0_ n1_ n2_; (try clear hb); (try clear ho0)) | ((with_reducible refine gate_dst (N := 17) rfl ?_); refine Kd.R_lit (Kd.int .u8) _ 5 ?hg (N := 17) ?hd (xs := ([] : List Int)) (inner := []) (ok := fun _ => True) (okp := fun _ => True) ?hr ?hp (fun _ hk => hk) trivial (Below.refl _ _) (Nat.le_refl _) (by simp) ?_; (case hd => rfl); (case hg => rfl); (case hr => (go_simp; done)); (case hp => exact (Reps.none _ _)); intro v240 w24 ho25 hb hg_ hnew_; clear hg_ hnew_; (rw [← Ny239.out] at ho25); have n0_ := Aside0.mk (Kd.R_elder' (by exact HO225.out) (Kd.R_base ho25) hb); have n1_ := Aside0.mk (Kd.R_lower (Kd.R_new' ho25 (Kd.R_lt (by exact HO225.out))) (below_size HB.out)); have n2_ := Aside0.mk (blk_below (g := gb222) (o := .cells #[.int .i64 a0_0, .slice A0_1 l0_1.length c0_1] 42 (0, 0)) (by exact BK222.out) hb); have n3_ := Aside0.mk (below_step HB.out hb); clear HO225; clear BK222; clear HB; have HO225 := n0_; have HO241 := n1_; have BK222 := n2_; have HB := n3_; clear n0_ n1_ n2_ n3_; clear hb ho25))
    go_ret2
    exact ⟨_, by (rfl), by exact Kd.R_mono HO241.out (fun _ hk => trivial), HB.out⟩

  rw [if_pos c4] at H
  have c4b0 : (t226 == 0) = true := beq_iff_eq.mpr c4
  have c4b1 : (t226 != 0) = false := bne_eq_false_iff_eq.mpr c4
  clear c4
  by_cases c5 : (l1.length : Int) = 32
  rotate_left
  · rw [if_neg c5] at H
    have c5b0 : ((l1.length : Int) == 32) = false := beq_eq_false_iff_ne.mpr c5
    have c5b1 : ((l1.length : Int) != 32) = true := bne_iff_ne.mpr c5
    obtain ⟨y236, hy236⟩ : ∃ y_ : List Int, y_ = ([] : List Int) := ⟨_, rfl⟩
    replace H : (some (y236, 2)) = some (r1, r2) := by (rw [hy236]; with_reducible exact H)
    have Ny236 := Aside0.mk hy236
    clear hy236
    simp only [Option.some.injEq, Prod.mk.injEq] at H
    obtain ⟨rfl, rfl⟩ := H
    go_enter Try.func39, Try.ntmps39
    go_wp2_with (first | ((with_reducible refine gate_dst (N := 2) rfl ?_); refine box_event ?hg (N := 2) ?hd (cs := #[.int .i64 a0_0, .slice A0_1 l0_1.length c0_1]) (t := 42) ?hr ?_; (case hd => rfl); (case hg => rfl); (case hr => (go_simp; done)); intro gb222 hg w16 hbox hb; have n0_ := Aside0.mk (below_step HB.out hb); have n1_ := Aside0.mk (hbox); have n2_ := Aside0.mk ((by rw [hg]; exact (below_size HB.out) : w.heap.size ≤ gb222)); have n3_ := Aside0.mk ((by rw [hg]; exact (below_size HB.out) : w.heap.size ≤ gb222)); clear HB; have HB := n0_; have BK222 := n1_; have GW222 := n2_; have GE222 := n3_; clear n0_ n1_ n2_ n3_; clear hb hbox hg; have hcz17_0 : w16.cell? ⟨gb222, 0, none⟩ = some (.int .i64 a0_0) := (blk_cell BK222.out 0).trans rfl; have hcz17_1 : w16.cell? ⟨gb222, 1, none⟩ = some (.slice A0_1 l0_1.length c0_1) := (blk_cell BK222.out 1).trans rfl; have hfz17_0 := blk_frozen BK222.out 0; have hfz17_1 := blk_frozen BK222.out 1) | ((with_reducible refine gate_callee (f := 40) rfl ?_); refine goesL_ (some 12) rfl rfl Try.func40 (by kernel_rfl) rfl #[.agg #[.int .i64 a0_0, .slice A0_1 l0_1.length c0_1]] rfl (by (try simp only [List.map_toArray, List.map_cons, List.map_nil]); (rfl)) ?_; (with_reducible refine (notaryref46_Payload.calls k a0_0 _ _ l0_1 t223 t226 _ ?side1 ?side2 A3.out).mono ?_); (case side1 => exact Kd.C_below HR0_1.out HB.out); (case side2 => exact HC0_1.out); rintro e w18 ⟨v224, rfl, ho0, hb⟩; refine ⟨_, rfl, ?_⟩; have n0_ := Aside0.mk (Kd.R_lower ho0 (below_size HB.out)); have n1_ := Aside0.mk (blk_below (g := gb222) (o := .cells #[.int .i64 a0_0, .slice A0_1 l0_1.length c0_1] 42 (0, 0)) (by exact BK222.out) hb); have n2_ := Aside0.mk (below_step HB.out hb); clear BK222; clear HB; have HO225 := n0_; have BK222 := n1_; have HB := n2_; clear n0_ n1_ n2_; (try clear hb); (try clear ho0)) | ((with_reducible refine gate_dst (N := 22) rfl ?_); refine Kd.R_lit (Kd.int .u8) _ 5 ?hg (N := 22) ?hd (xs := ([] : List Int)) (inner := []) (ok := fun _ => True) (okp := fun _ => True) ?hr ?hp (fun _ hk => hk) trivial (Below.refl _ _) (Nat.le_refl _) (by simp) ?_; (case hd => rfl); (case hg => rfl); (case hr => (go_simp; done)); (case hp => exact (Reps.none _ _)); intro v237 w19 ho20 hb hg_ hnew_; clear hg_ hnew_; (rw [← Ny236.out] at ho20); have n0_ := Aside0.mk (Kd.R_elder' (by exact HO225.out) (Kd.R_base ho20) hb); have n1_ := Aside0.mk (Kd.R_lower (Kd.R_new' ho20 (Kd.R_lt (by exact HO225.out))) (below_size HB.out)); have n2_ := Aside0.mk (blk_below (g := gb222) (o := .cells #[.int .i64 a0_0, .slice A0_1 l0_1.length c0_1] 42 (0, 0)) (by exact BK222.out) hb); have n3_ := Aside0.mk (below_step HB.out hb); clear HO225; clear BK222; clear HB; have HO225 := n0_; have HO238 := n1_; have BK222 := n2_; have HB := n3_; clear n0_ n1_ n2_ n3_; clear hb ho20))
    go_ret2
    exact ⟨_, by (rfl), by exact Kd.R_mono HO238.out (fun _ hk => trivial), HB.out⟩
  rw [if_pos c5] at H
  have c5b0 : ((l1.length : Int) == 32) = true := beq_iff_eq.mpr c5
  have c5b1 : ((l1.length : Int) != 32) = false := bne_eq_false_iff_eq.mpr c5
  clear c5
  obtain ⟨y227, hy227⟩ : ∃ y_ : List Int, y_ = (([0, 0, (wrap64 ((t223.length : Int) / 256)) % 256, (t223.length : Int) % 256] : List Int)) := ⟨_, rfl⟩
  replace H : (if y227.length + t223.length < 140737488355328 then ((some (y227 ++ t223 : List Int)).bind fun y230 => (if y230.length + l1.length < 140737488355328 then (some ((y230 ++ l1), 0)) else (none))) else (none)) = some (r1, r2) := by ((have H2_ := (Option.bind_some _ _).symm.trans H; rw [hy227]; with_reducible exact H2_))
  have Ny227 := Aside0.mk hy227
  clear hy227
  by_cases c6 : y227.length + t223.length < 140737488355328
  rotate_left
  · rw [if_neg c6] at H
    exact absurd H (by simp)
  rw [if_pos c6] at H
  have LMc6 := Aside0.mk c6
  clear c6
  obtain ⟨y230, hy230⟩ : ∃ y_ : List Int, y_ = (y227 ++ t223) := ⟨_, rfl⟩
  replace H : (if y230.length + l1.length < 140737488355328 then (some ((y230 ++ l1), 0)) else (none)) = some (r1, r2) := by ((have H2_ := (Option.bind_some _ _).symm.trans H; rw [hy230]; with_reducible exact H2_))
  have Ny230 := Aside0.mk hy230
  clear hy230
  by_cases c7 : y230.length + l1.length < 140737488355328
  rotate_left
  · rw [if_neg c7] at H
    exact absurd H (by simp)
  rw [if_pos c7] at H
  have LMc7 := Aside0.mk c7
  clear c7
  obtain ⟨y233, hy233⟩ : ∃ y_ : List Int, y_ = (y230 ++ l1) := ⟨_, rfl⟩
  replace H : (some (y233, 0)) = some (r1, r2) := by (rw [hy233]; with_reducible exact H)
  have Ny233 := Aside0.mk hy233
  clear hy233
  simp only [Option.some.injEq, Prod.mk.injEq] at H
  obtain ⟨rfl, rfl⟩ := H
  go_enter Try.func39, Try.ntmps39
  go_wp2_with (first | ((with_reducible refine gate_dst (N := 2) rfl ?_); refine box_event ?hg (N := 2) ?hd (cs := #[.int .i64 a0_0, .slice A0_1 l0_1.length c0_1]) (t := 42) ?hr ?_; (case hd => rfl); (case hg => rfl); (case hr => (go_simp; done)); intro gb222 hg w8 hbox hb; have n0_ := Aside0.mk (below_step HB.out hb); have n1_ := Aside0.mk (hbox); have n2_ := Aside0.mk ((by rw [hg]; exact (below_size HB.out) : w.heap.size ≤ gb222)); have n3_ := Aside0.mk ((by rw [hg]; exact (below_size HB.out) : w.heap.size ≤ gb222)); clear HB; have HB := n0_; have BK222 := n1_; have GW222 := n2_; have GE222 := n3_; clear n0_ n1_ n2_ n3_; clear hb hbox hg; have hcz9_0 : w8.cell? ⟨gb222, 0, none⟩ = some (.int .i64 a0_0) := (blk_cell BK222.out 0).trans rfl; have hcz9_1 : w8.cell? ⟨gb222, 1, none⟩ = some (.slice A0_1 l0_1.length c0_1) := (blk_cell BK222.out 1).trans rfl; have hfz9_0 := blk_frozen BK222.out 0; have hfz9_1 := blk_frozen BK222.out 1) | ((with_reducible refine gate_callee (f := 40) rfl ?_); refine goesL_ (some 12) rfl rfl Try.func40 (by kernel_rfl) rfl #[.agg #[.int .i64 a0_0, .slice A0_1 l0_1.length c0_1]] rfl (by (try simp only [List.map_toArray, List.map_cons, List.map_nil]); (rfl)) ?_; (with_reducible refine (notaryref46_Payload.calls k a0_0 _ _ l0_1 t223 t226 _ ?side1 ?side2 A3.out).mono ?_); (case side1 => exact Kd.C_below HR0_1.out HB.out); (case side2 => exact HC0_1.out); rintro e w10 ⟨v224, rfl, ho0, hb⟩; refine ⟨_, rfl, ?_⟩; have n0_ := Aside0.mk (Kd.R_lower ho0 (below_size HB.out)); have n1_ := Aside0.mk (blk_below (g := gb222) (o := .cells #[.int .i64 a0_0, .slice A0_1 l0_1.length c0_1] 42 (0, 0)) (by exact BK222.out) hb); have n2_ := Aside0.mk (below_step HB.out hb); clear BK222; clear HB; have HO225 := n0_; have BK222 := n1_; have HB := n2_; clear n0_ n1_ n2_; (try clear hb); (try clear ho0); obtain ⟨Ao11, co11, eo11⟩ := Kd.R_slice HO225.out; subst eo11) | ((with_reducible refine gate_dst (N := 31) rfl ?_); refine Kd.R_lit (Kd.int .u8) _ 5 ?hg (N := 31) ?hd (xs := ([0, 0, (wrap64 ((t223.length : Int) / 256)) % 256, (t223.length : Int) % 256] : List Int)) (inner := [.int .u8 0, .int .u8 0, .int .u8 ((wrap64 ((t223.length : Int) / 256)) % 256), .int .u8 ((t223.length : Int) % 256)]) (ok := fun _ => True) (okp := fun _ => True) ?hr ?hp (fun _ hk => hk) trivial (Below.refl _ _) (Nat.le_refl _) (by simp) ?_; (case hd => rfl); (case hg => rfl); (case hr => (go_simp; done)); (case hp => exact (Reps.one (show Kd.M (Kd.int .u8) _ _ _ 0 [.int .u8 0] from rfl) (Reps.one (show Kd.M (Kd.int .u8) _ _ _ 0 [.int .u8 0] from rfl) (Reps.one (show Kd.M (Kd.int .u8) _ _ _ ((wrap64 ((t223.length : Int) / 256)) % 256) [.int .u8 ((wrap64 ((t223.length : Int) / 256)) % 256)] from rfl) (Reps.one (show Kd.M (Kd.int .u8) _ _ _ ((t223.length : Int) % 256) [.int .u8 ((t223.length : Int) % 256)] from rfl) (Reps.none _ _)))))); intro v228 w12 ho13 hb hg_ hnew_; clear hg_ hnew_; (rw [← Ny227.out] at ho13); have n0_ := Aside0.mk (Kd.R_elder' (by exact HO225.out) (Kd.R_base ho13) hb); have n1_ := Aside0.mk (Kd.R_lower (Kd.R_new' ho13 (Kd.R_lt (by exact HO225.out))) (below_size HB.out)); have n2_ := Aside0.mk (blk_below (g := gb222) (o := .cells #[.int .i64 a0_0, .slice A0_1 l0_1.length c0_1] 42 (0, 0)) (by exact BK222.out) hb); have n3_ := Aside0.mk (below_step HB.out hb); clear HO225; clear BK222; clear HB; have HO225 := n0_; have HO229 := n1_; have BK222 := n2_; have HB := n3_; clear n0_ n1_ n2_ n3_; clear hb ho13) | ((with_reducible refine gate_builtin (b := .append) (xs := #[.tmp 32, .tmp 33]) rfl ?_); at_builtin; refine Kd.R_append_rows (Kd.int .u8) (w0 := w) w.heap.size rfl (.tmp 32) (.tmp 33) 22 5 (.int .u8 0) 1 rfl Try.underlying22 info5 rfl (by decide) (by omega) v228 y227 t223 _ _ _ (fun k_ => some k_ ≠ (.slice Ao11 t223.length co11 : Value).ownBlock) (fun _ => False) rfl rfl ?aO ?aR (fun _ _ h => h) (fun _ h => h.elim) ?aF ?aB ?aS ?aL ?_; (case aR => repeat ((exact (Kd.R_reads' HO225.out).2.2))); (case aB => exact HB.out); (case aF => exact (fun k_ hk => Kd.fresh' (Kd.R_lt (by exact HO225.out)) k_ hk)); (case aO => exact (by exact Kd.R_mono HO229.out (fun _ hk => hk.2))); (case aS => exact (below_size HB.out)); (case aL => have := LMc6.out; omega); intro v231 w14 ho hb hg hat; rw [← Ny230.out] at ho; have n0_ := Aside0.mk (blk_grown (g := gb222) (o := .cells #[.int .i64 a0_0, .slice A0_1 l0_1.length c0_1] 42 (0, 0)) (by exact BK222.out) hg (Kd.R_ne HO229.out BK222.out (by decide))); have n1_ := Aside0.mk (Kd.R_after (ok := (fun _ => True)) (by exact HO225.out) hg hat); have n2_ := Aside0.mk (hb); have n3_ := Aside0.mk (ho); clear BK222; clear HO225; clear HB; clear HO229; have BK222 := n0_; have HO225 := n1_; have HB := n2_; have HO232 := n3_; clear n0_ n1_ n2_ n3_; clear ho hb hg hat) | ((with_reducible refine gate_builtin (b := .append) (xs := #[.tmp 34, .tmp 35]) rfl ?_); at_builtin; refine Kd.R_append_rows (Kd.int .u8) (w0 := w) w.heap.size rfl (.tmp 34) (.tmp 35) 22 5 (.int .u8 0) 1 rfl Try.underlying22 info5 rfl (by decide) (by omega) v231 y230 l1 _ _ _ (fun k_ => some k_ ≠ (.slice Ao11 t223.length co11 : Value).ownBlock) (fun _ => False) rfl rfl ?aO ?aR (fun _ _ h => h) (fun _ h => h.elim) ?aF ?aB ?aS ?aL ?_; (case aR => exact Kd.C_below HR1.out HB.out); (case aB => exact HB.out); (case aF => exact (fun k_ hk => Kd.fresh' (Kd.R_lt (by exact HO225.out)) k_ hk)); (case aO => exact (by exact HO232.out)); (case aS => exact (below_size HB.out)); (case aL => have := LMc7.out; omega); intro v234 w15 ho hb hg hat; rw [← Ny233.out] at ho; have n0_ := Aside0.mk (blk_grown (g := gb222) (o := .cells #[.int .i64 a0_0, .slice A0_1 l0_1.length c0_1] 42 (0, 0)) (by exact BK222.out) hg (Kd.R_ne HO232.out BK222.out (by decide))); have n1_ := Aside0.mk (Kd.R_after (ok := (fun _ => True)) (by exact HO225.out) hg hat); have n2_ := Aside0.mk (hb); have n3_ := Aside0.mk (ho); clear BK222; clear HO225; clear HB; clear HO232; have BK222 := n0_; have HO225 := n1_; have HB := n2_; have HO235 := n3_; clear n0_ n1_ n2_ n3_; clear ho hb hg hat))
  go_ret2
  exact ⟨_, by (rfl), by exact Kd.R_mono HO235.out (fun _ hk => trivial), HB.out⟩
end Go.Proofs.Ytnkkgeglnmggpaa.PCb
