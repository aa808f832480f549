-- SLIM: a printed text of which the unused ways are cut off
-- PRINTED by print.py (a twelfth state) out of the translation. Not trusted: Lean checks it.
import Derived.Test.YtogjnipojakfjaaPJdx0
import Derived.Test.YtogjnipojakfjaaPJdx3
namespace Go.Proofs.Ytogjnipojakfjaa.PJd
open Go.RowKit Go.Proofs.YtogjnipojakfjaaW.PrintWords Go.Proofs.YtogjnipojakfjaaW.PrintLast Go.Proofs.YtogjnipojakfjaaW.PrintMore
attribute [local go_sem] max2_int min2_int max_two min_two max_three min_three max_four min_four   -- for this text's walks alone
set_option linter.unusedVariables false
set_option linter.unusedSimpArgs false

/-! ### notaryref46_Frame: function 64 -/
def notaryref46_Frame.f (k : Nat) (a0_0 : Int) (l0_1 : List Int) (l1 : List Int) : Option (List Int × Int) := (notaryref46_Payload.f k a0_0 l0_1).bind fun bt126 => (if bt126.2 = 0 then (if (l1.length : Int) = 32 then ((some (([0, 0, (wrap64 ((bt126.1.length : Int) / 256)) % 256, (bt126.1.length : Int) % 256] : List Int) : List Int)).bind fun y130 => (if y130.length + bt126.1.length < 140737488355328 then ((some (y130 ++ bt126.1 : List Int)).bind fun y133 => (if y133.length + l1.length < 140737488355328 then (some ((y133 ++ l1), 0)) else (none))) else (none))) else (some (([] : List Int), 2))) else (some (([] : List Int), bt126.2)))
set_option maxHeartbeats 8000000 in
set_option maxRecDepth 100000 in
theorem notaryref46_Frame.calls (k : Nat) (a0_0 : Int) (A0_1 : Option Addr) (c0_1 : Nat) (l0_1 : List Int) (A1 : Option Addr) (c1 : Nat) (l1 : List Int) (r1 : List Int) (r2 : Int) (w : World) (hr0_1 : Kd.C (Kd.int .u8) w A0_1 l0_1.length l0_1) (hc0_1 : l0_1.length ≤ c0_1) (hr1 : Kd.C (Kd.int .u8) w A1 l1.length l1) (hc1 : l1.length ≤ c1) (h : notaryref46_Frame.f k a0_0 l0_1 l1 = some (r1, r2)) :
    Calls Try.prog 64 #[.agg #[.int .i64 a0_0, .slice A0_1 l0_1.length c0_1], .slice A1 l1.length c1] w fun e w' => ∃ v0_ : Value, e = .returned (.tuple #[v0_, .int .i64 r2]) ∧ Kd.R (Kd.int .u8) 5 w' w.heap.size (fun _ => True) v0_ r1 ∧ Below w.heap.size w w' := by
  have hu35 := Try.underlying35
  have HR0_1 := Aside0.mk hr0_1
  have HC0_1 := Aside0.mk hc0_1
  clear hr0_1 hc0_1
  have HR1 := Aside0.mk hr1
  have HC1 := Aside0.mk hc1
  clear hr1 hc1
  have HB := Aside0.mk (Below.refl w.heap.size w)
  have H : ((notaryref46_Payload.f k a0_0 l0_1).bind fun bt126 => (if bt126.2 = 0 then (if (l1.length : Int) = 32 then ((some (([0, 0, (wrap64 ((bt126.1.length : Int) / 256)) % 256, (bt126.1.length : Int) % 256] : List Int) : List Int)).bind fun y130 => (if y130.length + bt126.1.length < 140737488355328 then ((some (y130 ++ bt126.1 : List Int)).bind fun y133 => (if y133.length + l1.length < 140737488355328 then (some ((y133 ++ l1), 0)) else (none))) else (none))) else (some (([] : List Int), 2))) else (some (([] : List Int), bt126.2)))) = some (r1, r2) := h
  clear h
  replace H := Option.bind_eq_some_iff.mp H
  obtain ⟨⟨t126, t129⟩, A30, H⟩ := H
  replace H : (if t129 = 0 then (if (l1.length : Int) = 32 then ((some (([0, 0, (wrap64 ((t126.length : Int) / 256)) % 256, (t126.length : Int) % 256] : List Int) : List Int)).bind fun y130 => (if y130.length + t126.length < 140737488355328 then ((some (y130 ++ t126 : List Int)).bind fun y133 => (if y133.length + l1.length < 140737488355328 then (some ((y133 ++ l1), 0)) else (none))) else (none))) else (some (([] : List Int), 2))) else (some (([] : List Int), t129))) = some (r1, r2) := H
  have A3 := Aside0.mk A30
  clear A30
  by_cases c4 : t129 = 0
  rotate_left
  · rw [if_neg c4] at H
    have c4b0 : (t129 == 0) = false := beq_eq_false_iff_ne.mpr c4
    have c4b1 : (t129 != 0) = true := bne_iff_ne.mpr c4
    obtain ⟨y142, hy142⟩ : ∃ y_ : List Int, y_ = ([] : List Int) := ⟨_, rfl⟩
    replace H : (some (y142, t129)) = some (r1, r2) := by (rw [hy142]; with_reducible exact H)
    have Ny142 := Aside0.mk hy142
    clear hy142
    simp only [Option.some.injEq, Prod.mk.injEq] at H
    obtain ⟨rfl, rfl⟩ := H
    go_enter Try.func64, Try.ntmps64
    go_wp2_with (first | ((with_reducible refine gate_dst (N := 2) rfl ?_); refine box_event ?hg (N := 2) ?hd (cs := #[.int .i64 a0_0, .slice A0_1 l0_1.length c0_1]) (t := 35) ?hr ?_; (case hd => rfl); (case hg => rfl); (case hr => (go_simp; done)); intro gb125 hg w21 hbox hb; have n0_ := Aside0.mk (below_step HB.out hb); have n1_ := Aside0.mk (hbox); have n2_ := Aside0.mk ((by rw [hg]; exact (below_size HB.out) : w.heap.size ≤ gb125)); have n3_ := Aside0.mk ((by rw [hg]; exact (below_size HB.out) : w.heap.size ≤ gb125)); clear HB; have HB := n0_; have BK125 := n1_; have GW125 := n2_; have GE125 := n3_; clear n0_ n1_ n2_ n3_; clear hb hbox hg; have hcz22_0 : w21.cell? ⟨gb125, 0, none⟩ = some (.int .i64 a0_0) := (blk_cell BK125.out 0).trans rfl; have hcz22_1 : w21.cell? ⟨gb125, 1, none⟩ = some (.slice A0_1 l0_1.length c0_1) := (blk_cell BK125.out 1).trans rfl; have hfz22_0 := blk_frozen BK125.out 0; have hfz22_1 := blk_frozen BK125.out 1) | ((with_reducible refine gate_callee (f := 63) rfl ?_); refine goesL_ (some 12) rfl rfl Try.func63 (by kernel_rfl) rfl #[.agg #[.int .i64 a0_0, .slice A0_1 l0_1.length c0_1]] rfl (by (try simp only [List.map_toArray, List.map_cons, List.map_nil]); (rfl)) ?_; (with_reducible refine (notaryref46_Payload.calls k a0_0 _ _ l0_1 t126 t129 _ ?side1 ?side2 A3.out).mono ?_); (case side1 => exact Kd.C_below HR0_1.out HB.out); (case side2 => exact HC0_1.out); rintro e w23 ⟨v127, rfl, ho0, hb⟩; refine ⟨_, rfl, ?_⟩; have n0_ := Aside0.mk (Kd.R_lower ho0 (below_size HB.out)); have n1_ := Aside0.mk (blk_below (g := gb125) (o := .cells #[.int .i64 a0_0, .slice A0_1 l0_1.length c0_1] 35 (0, 0)) (by exact BK125.out) hb); have n2_ := Aside0.mk (below_step HB.out hb); clear BK125; clear HB; have HO128 := n0_; have BK125 := n1_; have HB := n2_; clear n0_ n1_ n2_; (try clear hb); (try clear ho0)) | ((with_reducible refine gate_dst (N := 17) rfl ?_); refine Kd.R_lit (Kd.int .u8) _ 5 ?hg (N := 17) ?hd (xs := ([] : List Int)) (inner := []) (ok := fun _ => True) (okp := fun _ => True) ?hr ?hp (fun _ hk => hk) trivial (Below.refl _ _) (Nat.le_refl _) (by simp) ?_; (case hd => rfl); (case hg => rfl); (case hr => (go_simp; done)); (case hp => exact (Reps.none _ _)); intro v143 w24 ho25 hb hg_ hnew_; clear hg_ hnew_; (rw [← Ny142.out] at ho25); have n0_ := Aside0.mk (Kd.R_elder' (by exact HO128.out) (Kd.R_base ho25) hb); have n1_ := Aside0.mk (Kd.R_lower (Kd.R_new' ho25 (Kd.R_lt (by exact HO128.out))) (below_size HB.out)); have n2_ := Aside0.mk (blk_below (g := gb125) (o := .cells #[.int .i64 a0_0, .slice A0_1 l0_1.length c0_1] 35 (0, 0)) (by exact BK125.out) hb); have n3_ := Aside0.mk (below_step HB.out hb); clear HO128; clear BK125; clear HB; have HO128 := n0_; have HO144 := n1_; have BK125 := n2_; have HB := n3_; clear n0_ n1_ n2_ n3_; clear hb ho25))
    go_ret2
    exact ⟨_, by (rfl), by exact Kd.R_mono HO144.out (fun _ hk => trivial), HB.out⟩


  rw [if_pos c4] at H
  have c4b0 : (t129 == 0) = true := beq_iff_eq.mpr c4
  have c4b1 : (t129 != 0) = false := bne_eq_false_iff_eq.mpr c4
  clear c4
  by_cases c5 : (l1.length : Int) = 32
  rotate_left
  · rw [if_neg c5] at H
    have c5b0 : ((l1.length : Int) == 32) = false := beq_eq_false_iff_ne.mpr c5
    have c5b1 : ((l1.length : Int) != 32) = true := bne_iff_ne.mpr c5
    obtain ⟨y139, hy139⟩ : ∃ y_ : List Int, y_ = ([] : List Int) := ⟨_, rfl⟩
    replace H : (some (y139, 2)) = some (r1, r2) := by (rw [hy139]; with_reducible exact H)
    have Ny139 := Aside0.mk hy139
    clear hy139
    simp only [Option.some.injEq, Prod.mk.injEq] at H
    obtain ⟨rfl, rfl⟩ := H
    go_enter Try.func64, Try.ntmps64
    go_wp2_with (first | ((with_reducible refine gate_dst (N := 2) rfl ?_); refine box_event ?hg (N := 2) ?hd (cs := #[.int .i64 a0_0, .slice A0_1 l0_1.length c0_1]) (t := 35) ?hr ?_; (case hd => rfl); (case hg => rfl); (case hr => (go_simp; done)); intro gb125 hg w16 hbox hb; have n0_ := Aside0.mk (below_step HB.out hb); have n1_ := Aside0.mk (hbox); have n2_ := Aside0.mk ((by rw [hg]; exact (below_size HB.out) : w.heap.size ≤ gb125)); have n3_ := Aside0.mk ((by rw [hg]; exact (below_size HB.out) : w.heap.size ≤ gb125)); clear HB; have HB := n0_; have BK125 := n1_; have GW125 := n2_; have GE125 := n3_; clear n0_ n1_ n2_ n3_; clear hb hbox hg; have hcz17_0 : w16.cell? ⟨gb125, 0, none⟩ = some (.int .i64 a0_0) := (blk_cell BK125.out 0).trans rfl; have hcz17_1 : w16.cell? ⟨gb125, 1, none⟩ = some (.slice A0_1 l0_1.length c0_1) := (blk_cell BK125.out 1).trans rfl; have hfz17_0 := blk_frozen BK125.out 0; have hfz17_1 := blk_frozen BK125.out 1) | ((with_reducible refine gate_callee (f := 63) rfl ?_); refine goesL_ (some 12) rfl rfl Try.func63 (by kernel_rfl) rfl #[.agg #[.int .i64 a0_0, .slice A0_1 l0_1.length c0_1]] rfl (by (try simp only [List.map_toArray, List.map_cons, List.map_nil]); (rfl)) ?_; (with_reducible refine (notaryref46_Payload.calls k a0_0 _ _ l0_1 t126 t129 _ ?side1 ?side2 A3.out).mono ?_); (case side1 => exact Kd.C_below HR0_1.out HB.out); (case side2 => exact HC0_1.out); rintro e w18 ⟨v127, rfl, ho0, hb⟩; refine ⟨_, rfl, ?_⟩; have n0_ := Aside0.mk (Kd.R_lower ho0 (below_size HB.out)); have n1_ := Aside0.mk (blk_below (g := gb125) (o := .cells #[.int .i64 a0_0, .slice A0_1 l0_1.length c0_1] 35 (0, 0)) (by exact BK125.out) hb); have n2_ := Aside0.mk (below_step HB.out hb); clear BK125; clear HB; have HO128 := n0_; have BK125 := n1_; have HB := n2_; clear n0_ n1_ n2_; (try clear hb); (try clear ho0)) | ((with_reducible refine gate_dst (N := 22) rfl ?_); refine Kd.R_lit (Kd.int .u8) _ 5 ?hg (N := 22) ?hd (xs := ([] : List Int)) (inner := []) (ok := fun _ => True) (okp := fun _ => True) ?hr ?hp (fun _ hk => hk) trivial (Below.refl _ _) (Nat.le_refl _) (by simp) ?_; (case hd => rfl); (case hg => rfl); (case hr => (go_simp; done)); (case hp => exact (Reps.none _ _)); intro v140 w19 ho20 hb hg_ hnew_; clear hg_ hnew_; (rw [← Ny139.out] at ho20); have n0_ := Aside0.mk (Kd.R_elder' (by exact HO128.out) (Kd.R_base ho20) hb); have n1_ := Aside0.mk (Kd.R_lower (Kd.R_new' ho20 (Kd.R_lt (by exact HO128.out))) (below_size HB.out)); have n2_ := Aside0.mk (blk_below (g := gb125) (o := .cells #[.int .i64 a0_0, .slice A0_1 l0_1.length c0_1] 35 (0, 0)) (by exact BK125.out) hb); have n3_ := Aside0.mk (below_step HB.out hb); clear HO128; clear BK125; clear HB; have HO128 := n0_; have HO141 := n1_; have BK125 := n2_; have HB := n3_; clear n0_ n1_ n2_ n3_; clear hb ho20))
    go_ret2
    exact ⟨_, by (rfl), by exact Kd.R_mono HO141.out (fun _ hk => trivial), HB.out⟩
  rw [if_pos c5] at H
  have c5b0 : ((l1.length : Int) == 32) = true := beq_iff_eq.mpr c5
  have c5b1 : ((l1.length : Int) != 32) = false := bne_eq_false_iff_eq.mpr c5
  clear c5
  obtain ⟨y130, hy130⟩ : ∃ y_ : List Int, y_ = (([0, 0, (wrap64 ((t126.length : Int) / 256)) % 256, (t126.length : Int) % 256] : List Int)) := ⟨_, rfl⟩
  replace H : (if y130.length + t126.length < 140737488355328 then ((some (y130 ++ t126 : List Int)).bind fun y133 => (if y133.length + l1.length < 140737488355328 then (some ((y133 ++ l1), 0)) else (none))) else (none)) = some (r1, r2) := by ((have H2_ := (Option.bind_some _ _).symm.trans H; rw [hy130]; with_reducible exact H2_))
  have Ny130 := Aside0.mk hy130
  clear hy130
  by_cases c6 : y130.length + t126.length < 140737488355328
  rotate_left
  · rw [if_neg c6] at H
    exact absurd H (by simp)
  rw [if_pos c6] at H
  have LMc6 := Aside0.mk c6
  clear c6
  obtain ⟨y133, hy133⟩ : ∃ y_ : List Int, y_ = (y130 ++ t126) := ⟨_, rfl⟩
  replace H : (if y133.length + l1.length < 140737488355328 then (some ((y133 ++ l1), 0)) else (none)) = some (r1, r2) := by ((have H2_ := (Option.bind_some _ _).symm.trans H; rw [hy133]; with_reducible exact H2_))
  have Ny133 := Aside0.mk hy133
  clear hy133
  by_cases c7 : y133.length + l1.length < 140737488355328
  rotate_left
  · rw [if_neg c7] at H
    exact absurd H (by simp)
  rw [if_pos c7] at H
  have LMc7 := Aside0.mk c7
  clear c7
  obtain ⟨y136, hy136⟩ : ∃ y_ : List Int, y_ = (y133 ++ l1) := ⟨_, rfl⟩
  replace H : (some (y136, 0)) = some (r1, r2) := by (rw [hy136]; with_reducible exact H)
  have Ny136 := Aside0.mk hy136
  clear hy136
  simp only [Option.some.injEq, Prod.mk.injEq] at H
  obtain ⟨rfl, rfl⟩ := H
  go_enter Try.func64, Try.ntmps64
  go_wp2_with (first | ((with_reducible refine gate_dst (N := 2) rfl ?_); refine box_event ?hg (N := 2) ?hd (cs := #[.int .i64 a0_0, .slice A0_1 l0_1.length c0_1]) (t := 35) ?hr ?_; (case hd => rfl); (case hg => rfl); (case hr => (go_simp; done)); intro gb125 hg w8 hbox hb; have n0_ := Aside0.mk (below_step HB.out hb); have n1_ := Aside0.mk (hbox); have n2_ := Aside0.mk ((by rw [hg]; exact (below_size HB.out) : w.heap.size ≤ gb125)); have n3_ := Aside0.mk ((by rw [hg]; exact (below_size HB.out) : w.heap.size ≤ gb125)); clear HB; have HB := n0_; have BK125 := n1_; have GW125 := n2_; have GE125 := n3_; clear n0_ n1_ n2_ n3_; clear hb hbox hg; have hcz9_0 : w8.cell? ⟨gb125, 0, none⟩ = some (.int .i64 a0_0) := (blk_cell BK125.out 0).trans rfl; have hcz9_1 : w8.cell? ⟨gb125, 1, none⟩ = some (.slice A0_1 l0_1.length c0_1) := (blk_cell BK125.out 1).trans rfl; have hfz9_0 := blk_frozen BK125.out 0; have hfz9_1 := blk_frozen BK125.out 1) | ((with_reducible refine gate_callee (f := 63) rfl ?_); refine goesL_ (some 12) rfl rfl Try.func63 (by kernel_rfl) rfl #[.agg #[.int .i64 a0_0, .slice A0_1 l0_1.length c0_1]] rfl (by (try simp only [List.map_toArray, List.map_cons, List.map_nil]); (rfl)) ?_; (with_reducible refine (notaryref46_Payload.calls k a0_0 _ _ l0_1 t126 t129 _ ?side1 ?side2 A3.out).mono ?_); (case side1 => exact Kd.C_below HR0_1.out HB.out); (case side2 => exact HC0_1.out); rintro e w10 ⟨v127, rfl, ho0, hb⟩; refine ⟨_, rfl, ?_⟩; have n0_ := Aside0.mk (Kd.R_lower ho0 (below_size HB.out)); have n1_ := Aside0.mk (blk_below (g := gb125) (o := .cells #[.int .i64 a0_0, .slice A0_1 l0_1.length c0_1] 35 (0, 0)) (by exact BK125.out) hb); have n2_ := Aside0.mk (below_step HB.out hb); clear BK125; clear HB; have HO128 := n0_; have BK125 := n1_; have HB := n2_; clear n0_ n1_ n2_; (try clear hb); (try clear ho0); obtain ⟨Ao11, co11, eo11⟩ := Kd.R_slice HO128.out; subst eo11) | ((with_reducible refine gate_dst (N := 31) rfl ?_); refine Kd.R_lit (Kd.int .u8) _ 5 ?hg (N := 31) ?hd (xs := ([0, 0, (wrap64 ((t126.length : Int) / 256)) % 256, (t126.length : Int) % 256] : List Int)) (inner := [.int .u8 0, .int .u8 0, .int .u8 ((wrap64 ((t126.length : Int) / 256)) % 256), .int .u8 ((t126.length : Int) % 256)]) (ok := fun _ => True) (okp := fun _ => True) ?hr ?hp (fun _ hk => hk) trivial (Below.refl _ _) (Nat.le_refl _) (by simp) ?_; (case hd => rfl); (case hg => rfl); (case hr => (go_simp; done)); (case hp => exact (Reps.one (show Kd.M (Kd.int .u8) _ _ _ 0 [.int .u8 0] from rfl) (Reps.one (show Kd.M (Kd.int .u8) _ _ _ 0 [.int .u8 0] from rfl) (Reps.one (show Kd.M (Kd.int .u8) _ _ _ ((wrap64 ((t126.length : Int) / 256)) % 256) [.int .u8 ((wrap64 ((t126.length : Int) / 256)) % 256)] from rfl) (Reps.one (show Kd.M (Kd.int .u8) _ _ _ ((t126.length : Int) % 256) [.int .u8 ((t126.length : Int) % 256)] from rfl) (Reps.none _ _)))))); intro v131 w12 ho13 hb hg_ hnew_; clear hg_ hnew_; (rw [← Ny130.out] at ho13); have n0_ := Aside0.mk (Kd.R_elder' (by exact HO128.out) (Kd.R_base ho13) hb); have n1_ := Aside0.mk (Kd.R_lower (Kd.R_new' ho13 (Kd.R_lt (by exact HO128.out))) (below_size HB.out)); have n2_ := Aside0.mk (blk_below (g := gb125) (o := .cells #[.int .i64 a0_0, .slice A0_1 l0_1.length c0_1] 35 (0, 0)) (by exact BK125.out) hb); have n3_ := Aside0.mk (below_step HB.out hb); clear HO128; clear BK125; clear HB; have HO128 := n0_; have HO132 := n1_; have BK125 := n2_; have HB := n3_; clear n0_ n1_ n2_ n3_; clear hb ho13) | ((with_reducible refine gate_builtin (b := .append) (xs := #[.tmp 32, .tmp 33]) rfl ?_); at_builtin; refine Kd.R_append_rows (Kd.int .u8) (w0 := w) w.heap.size rfl (.tmp 32) (.tmp 33) 22 5 (.int .u8 0) 1 rfl Try.underlying22 info5 rfl (by decide) (by omega) v131 y130 t126 _ _ _ (fun k_ => some k_ ≠ (.slice Ao11 t126.length co11 : Value).ownBlock) (fun _ => False) rfl rfl ?aO ?aR (fun _ _ h => h) (fun _ h => h.elim) ?aF ?aB ?aS ?aL ?_; (case aR => repeat ((exact (Kd.R_reads' HO128.out).2.2))); (case aB => exact HB.out); (case aF => exact (fun k_ hk => Kd.fresh' (Kd.R_lt (by exact HO128.out)) k_ hk)); (case aO => exact (by exact Kd.R_mono HO132.out (fun _ hk => hk.2))); (case aS => exact (below_size HB.out)); (case aL => have := LMc6.out; omega); intro v134 w14 ho hb hg hat; rw [← Ny133.out] at ho; have n0_ := Aside0.mk (blk_grown (g := gb125) (o := .cells #[.int .i64 a0_0, .slice A0_1 l0_1.length c0_1] 35 (0, 0)) (by exact BK125.out) hg (Kd.R_ne HO132.out BK125.out (by decide))); have n1_ := Aside0.mk (Kd.R_after (ok := (fun _ => True)) (by exact HO128.out) hg hat); have n2_ := Aside0.mk (hb); have n3_ := Aside0.mk (ho); clear BK125; clear HO128; clear HB; clear HO132; have BK125 := n0_; have HO128 := n1_; have HB := n2_; have HO135 := n3_; clear n0_ n1_ n2_ n3_; clear ho hb hg hat) | ((with_reducible refine gate_builtin (b := .append) (xs := #[.tmp 34, .tmp 35]) rfl ?_); at_builtin; refine Kd.R_append_rows (Kd.int .u8) (w0 := w) w.heap.size rfl (.tmp 34) (.tmp 35) 22 5 (.int .u8 0) 1 rfl Try.underlying22 info5 rfl (by decide) (by omega) v134 y133 l1 _ _ _ (fun k_ => some k_ ≠ (.slice Ao11 t126.length co11 : Value).ownBlock) (fun _ => False) rfl rfl ?aO ?aR (fun _ _ h => h) (fun _ h => h.elim) ?aF ?aB ?aS ?aL ?_; (case aR => exact Kd.C_below HR1.out HB.out); (case aB => exact HB.out); (case aF => exact (fun k_ hk => Kd.fresh' (Kd.R_lt (by exact HO128.out)) k_ hk)); (case aO => exact (by exact HO135.out)); (case aS => exact (below_size HB.out)); (case aL => have := LMc7.out; omega); intro v137 w15 ho hb hg hat; rw [← Ny136.out] at ho; have n0_ := Aside0.mk (blk_grown (g := gb125) (o := .cells #[.int .i64 a0_0, .slice A0_1 l0_1.length c0_1] 35 (0, 0)) (by exact BK125.out) hg (Kd.R_ne HO135.out BK125.out (by decide))); have n1_ := Aside0.mk (Kd.R_after (ok := (fun _ => True)) (by exact HO128.out) hg hat); have n2_ := Aside0.mk (hb); have n3_ := Aside0.mk (ho); clear BK125; clear HO128; clear HB; clear HO135; have BK125 := n0_; have HO128 := n1_; have HB := n2_; have HO138 := n3_; clear n0_ n1_ n2_ n3_; clear ho hb hg hat))
  go_ret2
  exact ⟨_, by (rfl), by exact Kd.R_mono HO138.out (fun _ hk => trivial), HB.out⟩/-! ### notaryref47_Message: function 59 -/
def notaryref47_Message.l0 : Nat → Int → List Int → List Int → Int → Option (List Int × Int)
  | 0, _, _, _, _ => none
  | k + 1, x1, x8, x10, x11 => if x11 > 0 then (if x11 = 0 then (none) else (if x10.length < 140737488355328 then (notaryref47_Message.l0 k x1 x8 (x10 ++ [(Int.tmod (IntKind.u64.wrap (Int.tdiv x1 x11)) 256) % 256]) (IntKind.u64.wrap (Int.tdiv x11 256))) else (none))) else (if x10.length + x8.length < 140737488355328 then (some ((x10 ++ x8), 0)) else (none))
def notaryref47_Message.f (k : Nat) (l0 : List Int) (a1 : Int) (a2_0 : Int) (l2_1 : List Int) : Option (List Int × Int) := if (l0.length : Int) = 32 then ((notaryref46_Payload.f k a2_0 l2_1).bind fun bt149 => (if bt149.2 = 0 then ((some (([] : List Int) : List Int)).bind fun y156 => (if y156.length + l0.length < 140737488355328 then (notaryref47_Message.l0 k a1 bt149.1 (y156 ++ l0) 72057594037927936) else (none))) else (some (([] : List Int), bt149.2)))) else (some (([] : List Int), 2))
set_option maxHeartbeats 8000000 in
set_option maxRecDepth 100000 in
theorem notaryref47_Message.calls (k : Nat) (A0 : Option Addr) (c0 : Nat) (l0 : List Int) (a1 : Int) (a2_0 : Int) (A2_1 : Option Addr) (c2_1 : Nat) (l2_1 : List Int) (r1 : List Int) (r2 : Int) (w : World) (hr0 : Kd.C (Kd.int .u8) w A0 l0.length l0) (hc0 : l0.length ≤ c0) (hr2_1 : Kd.C (Kd.int .u8) w A2_1 l2_1.length l2_1) (hc2_1 : l2_1.length ≤ c2_1) (h : notaryref47_Message.f k l0 a1 a2_0 l2_1 = some (r1, r2)) :
    Calls Try.prog 59 #[.slice A0 l0.length c0, .int .u64 a1, .agg #[.int .i64 a2_0, .slice A2_1 l2_1.length c2_1]] w fun e w' => ∃ v0_ : Value, e = .returned (.tuple #[v0_, .int .i64 r2]) ∧ Kd.R (Kd.int .u8) 5 w' w.heap.size (fun _ => True) v0_ r1 ∧ Below w.heap.size w w' := by
  have hu35 := Try.underlying35
  have HR0 := Aside0.mk hr0
  have HC0 := Aside0.mk hc0
  clear hr0 hc0
  have HR2_1 := Aside0.mk hr2_1
  have HC2_1 := Aside0.mk hc2_1
  clear hr2_1 hc2_1
  have HB := Aside0.mk (Below.refl w.heap.size w)
  have H : (if (l0.length : Int) = 32 then ((notaryref46_Payload.f k a2_0 l2_1).bind fun bt149 => (if bt149.2 = 0 then ((some (([] : List Int) : List Int)).bind fun y156 => (if y156.length + l0.length < 140737488355328 then (notaryref47_Message.l0 k a1 bt149.1 (y156 ++ l0) 72057594037927936) else (none))) else (some (([] : List Int), bt149.2)))) else (some (([] : List Int), 2))) = some (r1, r2) := h
  clear h
  by_cases c4 : (l0.length : Int) = 32
  rotate_left
  · rw [if_neg c4] at H
    have c4b0 : ((l0.length : Int) == 32) = false := beq_eq_false_iff_ne.mpr c4
    have c4b1 : ((l0.length : Int) != 32) = true := bne_iff_ne.mpr c4
    obtain ⟨y146, hy146⟩ : ∃ y_ : List Int, y_ = ([] : List Int) := ⟨_, rfl⟩
    replace H : (some (y146, 2)) = some (r1, r2) := by (rw [hy146]; with_reducible exact H)
    have Ny146 := Aside0.mk hy146
    clear hy146
    simp only [Option.some.injEq, Prod.mk.injEq] at H
    obtain ⟨rfl, rfl⟩ := H
    go_enter Try.func59, Try.ntmps59
    go_wp2_with (first | ((with_reducible refine gate_dst (N := 5) rfl ?_); refine box_event ?hg (N := 5) ?hd (cs := #[.int .i64 a2_0, .slice A2_1 l2_1.length c2_1]) (t := 35) ?hr ?_; (case hd => rfl); (case hg => rfl); (case hr => (go_simp; done)); intro gb145 hg w26 hbox hb; have n0_ := Aside0.mk (below_step HB.out hb); have n1_ := Aside0.mk (hbox); have n2_ := Aside0.mk ((by rw [hg]; exact (below_size HB.out) : w.heap.size ≤ gb145)); have n3_ := Aside0.mk ((by rw [hg]; exact (below_size HB.out) : w.heap.size ≤ gb145)); clear HB; have HB := n0_; have BK145 := n1_; have GW145 := n2_; have GE145 := n3_; clear n0_ n1_ n2_ n3_; clear hb hbox hg) | ((with_reducible refine gate_dst (N := 15) rfl ?_); refine Kd.R_lit (Kd.int .u8) _ 5 ?hg (N := 15) ?hd (xs := ([] : List Int)) (inner := []) (ok := fun _ => True) (okp := fun _ => True) ?hr ?hp (fun _ hk => hk) trivial (Below.refl _ _) (Nat.le_refl _) (by simp) ?_; (case hd => rfl); (case hg => rfl); (case hr => (go_simp; done)); (case hp => exact (Reps.none _ _)); intro v147 w27 ho28 hb hg_ hnew_; clear hg_ hnew_; (rw [← Ny146.out] at ho28); have n0_ := Aside0.mk (Kd.R_lower ho28 (below_size HB.out)); have n1_ := Aside0.mk (blk_below (g := gb145) (o := .cells #[.int .i64 a2_0, .slice A2_1 l2_1.length c2_1] 35 (0, 0)) (by exact BK145.out) hb); have n2_ := Aside0.mk (below_step HB.out hb); clear BK145; clear HB; have HO148 := n0_; have BK145 := n1_; have HB := n2_; clear n0_ n1_ n2_; clear hb ho28))
    go_ret2
    exact ⟨_, by (rfl), by exact HO148.out, HB.out⟩


  rw [if_pos c4] at H
  have c4b0 : ((l0.length : Int) == 32) = true := beq_iff_eq.mpr c4
  have c4b1 : ((l0.length : Int) != 32) = false := bne_eq_false_iff_eq.mpr c4
  clear c4
  replace H := Option.bind_eq_some_iff.mp H
  obtain ⟨⟨t149, t152⟩, A50, H⟩ := H
  replace H : (if t152 = 0 then ((some (([] : List Int) : List Int)).bind fun y156 => (if y156.length + l0.length < 140737488355328 then (notaryref47_Message.l0 k a1 t149 (y156 ++ l0) 72057594037927936) else (none))) else (some (([] : List Int), t152))) = some (r1, r2) := H
  have A5 := Aside0.mk A50
  clear A50
  by_cases c6 : t152 = 0
  rotate_left
  · rw [if_neg c6] at H
    have c6b0 : (t152 == 0) = false := beq_eq_false_iff_ne.mpr c6
    have c6b1 : (t152 != 0) = true := bne_iff_ne.mpr c6
    obtain ⟨y153, hy153⟩ : ∃ y_ : List Int, y_ = ([] : List Int) := ⟨_, rfl⟩
    replace H : (some (y153, t152)) = some (r1, r2) := by (rw [hy153]; with_reducible exact H)
    have Ny153 := Aside0.mk hy153
    clear hy153
    simp only [Option.some.injEq, Prod.mk.injEq] at H
    obtain ⟨rfl, rfl⟩ := H
    go_enter Try.func59, Try.ntmps59
    go_wp2_with (first | ((with_reducible refine gate_dst (N := 5) rfl ?_); refine box_event ?hg (N := 5) ?hd (cs := #[.int .i64 a2_0, .slice A2_1 l2_1.length c2_1]) (t := 35) ?hr ?_; (case hd => rfl); (case hg => rfl); (case hr => (go_simp; done)); intro gb145 hg w21 hbox hb; have n0_ := Aside0.mk (below_step HB.out hb); have n1_ := Aside0.mk (hbox); have n2_ := Aside0.mk ((by rw [hg]; exact (below_size HB.out) : w.heap.size ≤ gb145)); have n3_ := Aside0.mk ((by rw [hg]; exact (below_size HB.out) : w.heap.size ≤ gb145)); clear HB; have HB := n0_; have BK145 := n1_; have GW145 := n2_; have GE145 := n3_; clear n0_ n1_ n2_ n3_; clear hb hbox hg; have hcz22_0 : w21.cell? ⟨gb145, 0, none⟩ = some (.int .i64 a2_0) := (blk_cell BK145.out 0).trans rfl; have hcz22_1 : w21.cell? ⟨gb145, 1, none⟩ = some (.slice A2_1 l2_1.length c2_1) := (blk_cell BK145.out 1).trans rfl; have hfz22_0 := blk_frozen BK145.out 0; have hfz22_1 := blk_frozen BK145.out 1) | ((with_reducible refine gate_callee (f := 63) rfl ?_); refine goesL_ (some 18) rfl rfl Try.func63 (by kernel_rfl) rfl #[.agg #[.int .i64 a2_0, .slice A2_1 l2_1.length c2_1]] rfl (by (try simp only [List.map_toArray, List.map_cons, List.map_nil]); (rfl)) ?_; (with_reducible refine (notaryref46_Payload.calls k a2_0 _ _ l2_1 t149 t152 _ ?side1 ?side2 A5.out).mono ?_); (case side1 => exact Kd.C_below HR2_1.out HB.out); (case side2 => exact HC2_1.out); rintro e w23 ⟨v150, rfl, ho0, hb⟩; refine ⟨_, rfl, ?_⟩; have n0_ := Aside0.mk (Kd.R_lower ho0 (below_size HB.out)); have n1_ := Aside0.mk (blk_below (g := gb145) (o := .cells #[.int .i64 a2_0, .slice A2_1 l2_1.length c2_1] 35 (0, 0)) (by exact BK145.out) hb); have n2_ := Aside0.mk (below_step HB.out hb); clear BK145; clear HB; have HO151 := n0_; have BK145 := n1_; have HB := n2_; clear n0_ n1_ n2_; (try clear hb); (try clear ho0)) | ((with_reducible refine gate_dst (N := 23) rfl ?_); refine Kd.R_lit (Kd.int .u8) _ 5 ?hg (N := 23) ?hd (xs := ([] : List Int)) (inner := []) (ok := fun _ => True) (okp := fun _ => True) ?hr ?hp (fun _ hk => hk) trivial (Below.refl _ _) (Nat.le_refl _) (by simp) ?_; (case hd => rfl); (case hg => rfl); (case hr => (go_simp; done)); (case hp => exact (Reps.none _ _)); intro v154 w24 ho25 hb hg_ hnew_; clear hg_ hnew_; (rw [← Ny153.out] at ho25); have n0_ := Aside0.mk (Kd.R_elder' (by exact HO151.out) (Kd.R_base ho25) hb); have n1_ := Aside0.mk (Kd.R_lower (Kd.R_new' ho25 (Kd.R_lt (by exact HO151.out))) (below_size HB.out)); have n2_ := Aside0.mk (blk_below (g := gb145) (o := .cells #[.int .i64 a2_0, .slice A2_1 l2_1.length c2_1] 35 (0, 0)) (by exact BK145.out) hb); have n3_ := Aside0.mk (below_step HB.out hb); clear HO151; clear BK145; clear HB; have HO151 := n0_; have HO155 := n1_; have BK145 := n2_; have HB := n3_; clear n0_ n1_ n2_ n3_; clear hb ho25))
    go_ret2
    exact ⟨_, by (rfl), by exact Kd.R_mono HO155.out (fun _ hk => trivial), HB.out⟩
  rw [if_pos c6] at H
  have c6b0 : (t152 == 0) = true := beq_iff_eq.mpr c6
  have c6b1 : (t152 != 0) = false := bne_eq_false_iff_eq.mpr c6
  clear c6
  obtain ⟨y156, hy156⟩ : ∃ y_ : List Int, y_ = ([] : List Int) := ⟨_, rfl⟩
  replace H : (if y156.length + l0.length < 140737488355328 then (notaryref47_Message.l0 k a1 t149 (y156 ++ l0) 72057594037927936) else (none)) = some (r1, r2) := by ((have H2_ := (Option.bind_some _ _).symm.trans H; rw [hy156]; with_reducible exact H2_))
  have Ny156 := Aside0.mk hy156
  clear hy156
  by_cases c7 : y156.length + l0.length < 140737488355328
  rotate_left
  · rw [if_neg c7] at H
    exact absurd H (by simp)
  rw [if_pos c7] at H
  have LMc7 := Aside0.mk c7
  clear c7
  obtain ⟨y159, hy159⟩ : ∃ y_ : List Int, y_ = (y156 ++ l0) := ⟨_, rfl⟩
  replace H : (notaryref47_Message.l0 k a1 t149 y159 72057594037927936) = some (r1, r2) := by (rw [hy159]; with_reducible exact H)
  have Ny159 := Aside0.mk hy159
  clear hy159
  have H' := Aside0.mk H
  clear H
  go_enter Try.func59, Try.ntmps59
  go_wp2_with (first | ((with_reducible refine gate_dst (N := 5) rfl ?_); refine box_event ?hg (N := 5) ?hd (cs := #[.int .i64 a2_0, .slice A2_1 l2_1.length c2_1]) (t := 35) ?hr ?_; (case hd => rfl); (case hg => rfl); (case hr => (go_simp; done)); intro gb145 hg w8 hbox hb; have n0_ := Aside0.mk (below_step HB.out hb); have n1_ := Aside0.mk (hbox); have n2_ := Aside0.mk ((by rw [hg]; exact (below_size HB.out) : w.heap.size ≤ gb145)); have n3_ := Aside0.mk ((by rw [hg]; exact (below_size HB.out) : w.heap.size ≤ gb145)); clear HB; have HB := n0_; have BK145 := n1_; have GW145 := n2_; have GE145 := n3_; clear n0_ n1_ n2_ n3_; clear hb hbox hg; have hcz9_0 : w8.cell? ⟨gb145, 0, none⟩ = some (.int .i64 a2_0) := (blk_cell BK145.out 0).trans rfl; have hcz9_1 : w8.cell? ⟨gb145, 1, none⟩ = some (.slice A2_1 l2_1.length c2_1) := (blk_cell BK145.out 1).trans rfl; have hfz9_0 := blk_frozen BK145.out 0; have hfz9_1 := blk_frozen BK145.out 1) | ((with_reducible refine gate_callee (f := 63) rfl ?_); refine goesL_ (some 18) rfl rfl Try.func63 (by kernel_rfl) rfl #[.agg #[.int .i64 a2_0, .slice A2_1 l2_1.length c2_1]] rfl (by (try simp only [List.map_toArray, List.map_cons, List.map_nil]); (rfl)) ?_; (with_reducible refine (notaryref46_Payload.calls k a2_0 _ _ l2_1 t149 t152 _ ?side1 ?side2 A5.out).mono ?_); (case side1 => exact Kd.C_below HR2_1.out HB.out); (case side2 => exact HC2_1.out); rintro e w10 ⟨v150, rfl, ho0, hb⟩; refine ⟨_, rfl, ?_⟩; have n0_ := Aside0.mk (Kd.R_lower ho0 (below_size HB.out)); have n1_ := Aside0.mk (blk_below (g := gb145) (o := .cells #[.int .i64 a2_0, .slice A2_1 l2_1.length c2_1] 35 (0, 0)) (by exact BK145.out) hb); have n2_ := Aside0.mk (below_step HB.out hb); clear BK145; clear HB; have HO151 := n0_; have BK145 := n1_; have HB := n2_; clear n0_ n1_ n2_; (try clear hb); (try clear ho0)) | ((with_reducible refine gate_dst (N := 25) rfl ?_); refine Kd.R_lit (Kd.int .u8) _ 5 ?hg (N := 25) ?hd (xs := ([] : List Int)) (inner := []) (ok := fun _ => True) (okp := fun _ => True) ?hr ?hp (fun _ hk => hk) trivial (Below.refl _ _) (Nat.le_refl _) (by simp) ?_; (case hd => rfl); (case hg => rfl); (case hr => (go_simp; done)); (case hp => exact (Reps.none _ _)); intro v157 w11 ho12 hb hg_ hnew_; clear hg_ hnew_; (rw [← Ny156.out] at ho12); have n0_ := Aside0.mk (Kd.R_elder' (by exact HO151.out) (Kd.R_base ho12) hb); have n1_ := Aside0.mk (Kd.R_lower (Kd.R_new' ho12 (Kd.R_lt (by exact HO151.out))) (below_size HB.out)); have n2_ := Aside0.mk (blk_below (g := gb145) (o := .cells #[.int .i64 a2_0, .slice A2_1 l2_1.length c2_1] 35 (0, 0)) (by exact BK145.out) hb); have n3_ := Aside0.mk (below_step HB.out hb); clear HO151; clear BK145; clear HB; have HO151 := n0_; have HO158 := n1_; have BK145 := n2_; have HB := n3_; clear n0_ n1_ n2_ n3_; clear hb ho12) | ((with_reducible refine gate_builtin (b := .append) (xs := #[.tmp 25, .tmp 26]) rfl ?_); at_builtin; refine Kd.R_append_rows (Kd.int .u8) (w0 := w) w.heap.size rfl (.tmp 25) (.tmp 26) 22 5 (.int .u8 0) 1 rfl Try.underlying22 info5 rfl (by decide) (by omega) v157 y156 l0 _ _ _ (fun k_ => some k_ ≠ (v150 : Value).ownBlock) (fun _ => False) rfl rfl ?aO ?aR (fun _ _ h => h) (fun _ h => h.elim) ?aF ?aB ?aS ?aL ?_; (case aR => exact Kd.C_below HR0.out HB.out); (case aB => exact HB.out); (case aF => exact (fun k_ hk => Kd.fresh' (Kd.R_lt (by exact HO151.out)) k_ hk)); (case aO => exact (by exact Kd.R_mono HO158.out (fun _ hk => hk.2))); (case aS => exact (below_size HB.out)); (case aL => have := LMc7.out; omega); intro v160 w13 ho hb hg hat; rw [← Ny159.out] at ho; have n0_ := Aside0.mk (blk_grown (g := gb145) (o := .cells #[.int .i64 a2_0, .slice A2_1 l2_1.length c2_1] 35 (0, 0)) (by exact BK145.out) hg (Kd.R_ne HO158.out BK145.out (by decide))); have n1_ := Aside0.mk (Kd.R_after (ok := (fun _ => True)) (by exact HO151.out) hg hat); have n2_ := Aside0.mk (hb); have n3_ := Aside0.mk (ho); clear BK145; clear HO151; clear HB; clear HO158; have BK145 := n0_; have HO151 := n1_; have HB := n2_; have HO161 := n3_; clear n0_ n1_ n2_ n3_; clear ho hb hg hat))
  go_loopg [10, 11] k (fun kq v10 v11 w' => ∃ (x10_1 : List Int) (x11_1 : Int), v11 = .int .u64 x11_1 ∧ Aside0 (notaryref47_Message.l0 kq a1 t149 x10_1 x11_1 = some (r1, r2)) ∧ Aside0 (kq ≤ k) ∧ Aside0 (Kd.R (Kd.int .u8) 5 w' w.heap.size (fun k_ => some k_ ≠ (v10 : Value).ownBlock) v150 t149) ∧ Aside0 (Kd.R (Kd.int .u8) 5 w' w.heap.size (fun k_ => some k_ ≠ (v150 : Value).ownBlock) v10 x10_1) ∧ Aside0 (w'.heap[gb145]? = some (.cells #[.int .i64 a2_0, (.slice A2_1 l2_1.length c2_1)] 35 (0, 0))) ∧ Aside0 (Below w.heap.size w w'))
  case atStart => exact ⟨(y159), (72057594037927936), (by (rfl)), H', ⟨Nat.le_refl _⟩, ⟨by exact Kd.R_mono HO151.out (fun _ hk => hk.2)⟩, ⟨by exact HO161.out⟩, ⟨by exact BK145.out⟩, ⟨HB.out⟩⟩
  clear H'
  try clear c4b0
  try clear c4b1
  try clear c6b0
  try clear c6b1
  try clear hcz9_0
  try clear hcz9_1
  try clear hfz9_0
  try clear hfz9_1
  obtain ⟨x10_1, x11_1, rfl, HA, HK1, HO_8, HO_10, BK145, HB⟩ := hrel
  rcases gk with _ | k1
  · exact absurd HA.out (by simp [notaryref47_Message.l0])
  have H := HA.out
  clear HA
  simp only [notaryref47_Message.l0] at H
  by_cases c14 : x11_1 > 0
  rotate_left
  · rw [if_neg c14] at H
    have c14b0 : decide (0 < x11_1) = false := decide_eq_false c14
    clear c14
    by_cases c18 : x10_1.length + t149.length < 140737488355328
    rotate_left
    · rw [if_neg c18] at H
      exact absurd H (by simp)
    rw [if_pos c18] at H
    have LMc18 := Aside0.mk c18
    clear c18
    obtain ⟨y165, hy165⟩ : ∃ y_ : List Int, y_ = (x10_1 ++ t149) := ⟨_, rfl⟩
    replace H : (some (y165, 0)) = some (r1, r2) := by (rw [hy165]; with_reducible exact H)
    have Ny165 := Aside0.mk hy165
    clear hy165
    simp only [Option.some.injEq, Prod.mk.injEq] at H
    obtain ⟨rfl, rfl⟩ := H
    obtain ⟨Ao20, co20, eo20⟩ := Kd.R_slice HO_8.out
    subst eo20
    go_wp2_with ((((with_reducible refine gate_builtin (b := .append) (xs := #[.tmp 40, .tmp 41]) rfl ?_); at_builtin; refine Kd.R_append_rows (Kd.int .u8) (w0 := w) w.heap.size rfl (.tmp 40) (.tmp 41) 22 5 (.int .u8 0) 1 rfl Try.underlying22 info5 rfl (by decide) (by omega) u10 x10_1 t149 _ _ _ (fun k_ => some k_ ≠ (.slice Ao20 t149.length co20 : Value).ownBlock) (fun _ => False) rfl rfl ?aO ?aR (fun _ _ h => h) (fun _ h => h.elim) ?aF ?aB ?aS ?aL ?_; (case aR => repeat ((exact (Kd.R_reads' HO_8.out).2.2))); (case aB => exact HB.out); (case aF => exact (fun k_ hk => Kd.fresh' (Kd.R_lt (by exact HO_8.out)) k_ hk)); (case aO => exact (by exact HO_10.out)); (case aS => exact (below_size HB.out)); (case aL => have := LMc18.out; omega); intro v166 w19 ho hb hg hat; rw [← Ny165.out] at ho; have n0_ := Aside0.mk (Kd.R_after (ok := (fun _ => True)) (by exact Kd.R_mono HO_8.out (fun _ hk => ⟨trivial, by (exact hk)⟩)) hg hat); have n1_ := Aside0.mk (blk_grown (g := gb145) (o := .cells #[.int .i64 a2_0, .slice A2_1 l2_1.length c2_1] 35 (0, 0)) (by exact BK145.out) hg (Kd.R_ne HO_10.out BK145.out (by decide))); have n2_ := Aside0.mk (hb); have n3_ := Aside0.mk (ho); clear HO_8; clear BK145; clear HB; clear HO_10; have HO_8 := n0_; have BK145 := n1_; have HB := n2_; have HO167 := n3_; clear n0_ n1_ n2_ n3_; clear ho hb hg hat)))
    go_ret2
    exact ⟨_, by (rfl), by exact Kd.R_mono HO167.out (fun _ hk => trivial), HB.out⟩
  rw [if_pos c14] at H
  have c14b0 : decide (0 < x11_1) = true := decide_eq_true c14
  clear c14
  by_cases c15 : x11_1 = 0
  · rw [if_pos c15] at H
    exact absurd H (by simp)
  rw [if_neg c15] at H
  have c15b0 : (x11_1 == 0) = false := beq_eq_false_iff_ne.mpr c15
  have c15b1 : (x11_1 != 0) = true := bne_iff_ne.mpr c15
  by_cases c16 : x10_1.length < 140737488355328
  rotate_left
  · rw [if_neg c16] at H
    exact absurd H (by simp)
  rw [if_pos c16] at H
  have LMc16 := Aside0.mk c16
  clear c16
  obtain ⟨y162, hy162⟩ : ∃ y_ : List Int, y_ = (x10_1 ++ [(Int.tmod (IntKind.u64.wrap (Int.tdiv a1 x11_1)) 256) % 256]) := ⟨_, rfl⟩
  replace H : (notaryref47_Message.l0 k1 a1 t149 y162 (IntKind.u64.wrap (Int.tdiv x11_1 256))) = some (r1, r2) := by (rw [hy162]; with_reducible exact H)
  have Ny162 := Aside0.mk hy162
  clear hy162
  have H' := Aside0.mk H
  clear H
  go_wp2_with ((((with_reducible refine gate_builtin (b := .append) (xs := #[.tmp 30, .tmp 36]) rfl ?_); at_builtin; refine Kd.R_append (Kd.int .u8) (w0 := w) w.heap.size rfl (.tmp 30) (.tmp 36) 22 5 (.int .u8 0) 1 rfl Try.underlying22 info5 rfl (by decide) (by omega) u10 x10_1 ((Int.tmod (IntKind.u64.wrap (Int.tdiv a1 x11_1)) 256) % 256) [.int .u8 ((Int.tmod (IntKind.u64.wrap (Int.tdiv a1 x11_1)) 256) % 256)] (fun k_ => some k_ ≠ (v150 : Value).ownBlock) (fun _ => False) rfl rfl ?aP (fun _ hk => hk.elim) ?aF ?aO ?aB ?aS ?aL ?_; (case aP => exact rfl); (case aB => exact HB.out); (case aF => exact (fun k_ hk => Kd.fresh' (Kd.R_lt (by exact HO_8.out)) k_ hk)); (case aO => exact (by exact HO_10.out)); (case aS => exact (below_size HB.out)); (case aL => have := LMc16.out; omega); intro v163 w17 ho hb hg hat; rw [← Ny162.out] at ho; have n0_ := Aside0.mk (Kd.R_after (ok := (fun _ => True)) (by exact Kd.R_mono HO_8.out (fun _ hk => ⟨trivial, by (exact hk)⟩)) hg hat); have n1_ := Aside0.mk (blk_grown (g := gb145) (o := .cells #[.int .i64 a2_0, .slice A2_1 l2_1.length c2_1] 35 (0, 0)) (by exact BK145.out) hg (Kd.R_ne HO_10.out BK145.out (by decide))); have n2_ := Aside0.mk (hb); have n3_ := Aside0.mk (ho); clear HO_8; clear BK145; clear HB; clear HO_10; have HO_8 := n0_; have BK145 := n1_; have HB := n2_; have HO164 := n3_; clear n0_ n1_ n2_ n3_; clear ho hb hg hat)))
  go_roundg k1
  case measure => have := HK1.out; omega
  case rel => exact ⟨(y162), (IntKind.u64.wrap (Int.tdiv x11_1 256)), (by (rfl)), H', ⟨by have := HK1.out; omega⟩, ⟨by exact Kd.R_mono HO_8.out (fun _ hk => hk.2)⟩, ⟨by exact HO164.out⟩, ⟨by exact BK145.out⟩, ⟨HB.out⟩⟩/-! ### notaryref03_Tail: function 76 -/
mutual
def notaryref03_Tail.l0 : Nat → Int → List Int → Int → Option (List Int)
  | 0, _, _, _ => none
  | k + 1, x0, x3, x4 => if (Int.tmod (wrap64 (x4 + 8)) 64) = 0 then (notaryref03_Tail.l1 k x3 (IntKind.u64.wrap ((IntKind.u64.wrap (x0)) * 8)) 72057594037927936) else (if x3.length < 140737488355328 then (notaryref03_Tail.l0 k x0 (x3 ++ [0]) (wrap64 (x4 + 1))) else (none))
def notaryref03_Tail.l1 : Nat → List Int → Int → Int → Option (List Int)
  | 0, _, _, _ => none
  | k + 1, x3, x5, x6 => if x6 > 0 then (if x6 = 0 then (none) else (if x3.length < 140737488355328 then (notaryref03_Tail.l1 k (x3 ++ [(Int.tmod (IntKind.u64.wrap (Int.tdiv x5 x6)) 256) % 256]) x5 (IntKind.u64.wrap (Int.tdiv x6 256))) else (none))) else (some x3)
end
def notaryref03_Tail.f (k : Nat) (a0 : Int) : Option (List Int) := notaryref03_Tail.l0 k a0 ([128] : List Int) (wrap64 ((Int.tmod a0 64) + 1))
set_option maxHeartbeats 8000000 in
set_option maxRecDepth 100000 in
theorem notaryref03_Tail.calls (k : Nat) (a0 : Int) (r : List Int) (w : World) (h : notaryref03_Tail.f k a0 = some r) :
    Calls Try.prog 76 #[.int .i64 a0] w fun e w' => ∃ v0_ : Value, e = .returned (v0_) ∧ Kd.R (Kd.int .u8) 5 w' w.heap.size (fun _ => True) v0_ r ∧ Below w.heap.size w w' := by
  have HB := Aside0.mk (Below.refl w.heap.size w)
  have H : (notaryref03_Tail.l0 k a0 ([128] : List Int) (wrap64 ((Int.tmod a0 64) + 1))) = some r := h
  clear h
  obtain ⟨y168, hy168⟩ : ∃ y_ : List Int, y_ = ([128] : List Int) := ⟨_, rfl⟩
  replace H : (notaryref03_Tail.l0 k a0 y168 (wrap64 ((Int.tmod a0 64) + 1))) = some r := by (rw [hy168]; with_reducible exact H)
  have Ny168 := Aside0.mk hy168
  clear hy168
  have H' := Aside0.mk H
  clear H
  go_enter Try.func76, Try.ntmps76
  go_wp2_with ((((with_reducible refine gate_dst (N := 7) rfl ?_); refine Kd.R_lit (Kd.int .u8) _ 5 ?hg (N := 7) ?hd (xs := ([128] : List Int)) (inner := [.int .u8 128]) (ok := fun _ => True) (okp := fun _ => True) ?hr ?hp (fun _ hk => hk) trivial (Below.refl _ _) (Nat.le_refl _) (by simp) ?_; (case hd => rfl); (case hg => rfl); (case hr => (go_simp; done)); (case hp => exact (Reps.one (show Kd.M (Kd.int .u8) _ _ _ 128 [.int .u8 128] from rfl) (Reps.none _ _))); intro v169 w2 ho3 hb hg_ hnew_; clear hg_ hnew_; (rw [← Ny168.out] at ho3); have n0_ := Aside0.mk (Kd.R_lower ho3 (below_size HB.out)); have n1_ := Aside0.mk (below_step HB.out hb); clear HB; have HO170 := n0_; have HB := n1_; clear n0_ n1_; clear hb ho3)))
  go_loopg [3, 4] k (fun kq v3 v4 w' => ∃ (x3_1 : List Int) (x4_1 : Int), v4 = .int .i64 x4_1 ∧ Aside0 (notaryref03_Tail.l0 kq a0 x3_1 x4_1 = some r) ∧ Aside0 (kq ≤ k) ∧ Aside0 (Kd.R (Kd.int .u8) 5 w' w.heap.size (fun _ => True) v3 x3_1) ∧ Aside0 (Below w.heap.size w w'))
  case atStart => exact ⟨(y168), (wrap64 ((Int.tmod a0 64) + 1)), (by (rfl)), H', ⟨Nat.le_refl _⟩, ⟨by exact HO170.out⟩, ⟨HB.out⟩⟩
  clear H'
  obtain ⟨x3_1, x4_1, rfl, HA, HK1, HO_3, HB⟩ := hrel
  rcases gk with _ | k1
  · exact absurd HA.out (by simp [notaryref03_Tail.l0])
  have H := HA.out
  clear HA
  simp only [notaryref03_Tail.l0] at H
  by_cases c4 : (Int.tmod (wrap64 (x4_1 + 8)) 64) = 0
  rotate_left
  · rw [if_neg c4] at H
    have c4b0 : ((Int.tmod (wrap64 (x4_1 + 8)) 64) == 0) = false := beq_eq_false_iff_ne.mpr c4
    have c4b1 : ((Int.tmod (wrap64 (x4_1 + 8)) 64) != 0) = true := bne_iff_ne.mpr c4
    by_cases c9 : x3_1.length < 140737488355328
    rotate_left
    · rw [if_neg c9] at H
      exact absurd H (by simp)


    rw [if_pos c9] at H
    have LMc9 := Aside0.mk c9
    clear c9
    obtain ⟨y171, hy171⟩ : ∃ y_ : List Int, y_ = (x3_1 ++ [0]) := ⟨_, rfl⟩
    replace H : (notaryref03_Tail.l0 k1 a0 y171 (wrap64 (x4_1 + 1))) = some r := by (rw [hy171]; with_reducible exact H)
    have Ny171 := Aside0.mk hy171
    clear hy171
    have H' := Aside0.mk H
    clear H
    go_wp2_with ((((with_reducible refine gate_builtin (b := .append) (xs := #[.tmp 15, .tmp 16]) rfl ?_); at_builtin; refine Kd.R_append (Kd.int .u8) (w0 := w) w.heap.size rfl (.tmp 15) (.tmp 16) 22 5 (.int .u8 0) 1 rfl Try.underlying22 info5 rfl (by decide) (by omega) u3 x3_1 0 [.int .u8 0] (fun _ => True) (fun _ => False) rfl rfl ?aP (fun _ hk => hk.elim) ?aF ?aO ?aB ?aS ?aL ?_; (case aP => exact rfl); (case aB => exact HB.out); (case aF => exact (fun _ _ => trivial)); (case aO => exact (by exact HO_3.out)); (case aS => exact (below_size HB.out)); (case aL => have := LMc9.out; omega); intro v172 w10 ho hb hg hat; rw [← Ny171.out] at ho; have n0_ := Aside0.mk (hb); have n1_ := Aside0.mk (ho); clear HB; clear HO_3; have HB := n0_; have HO173 := n1_; clear n0_ n1_; clear ho hb hg hat)))
    go_roundg k1
    case measure => have := HK1.out; omega
    case rel => exact ⟨(y171), (wrap64 (x4_1 + 1)), (by (rfl)), H', ⟨by have := HK1.out; omega⟩, ⟨by exact HO173.out⟩, ⟨HB.out⟩⟩
  rw [if_pos c4] at H
  have c4b0 : ((Int.tmod (wrap64 (x4_1 + 8)) 64) == 0) = true := beq_iff_eq.mpr c4
  have c4b1 : ((Int.tmod (wrap64 (x4_1 + 8)) 64) != 0) = false := bne_eq_false_iff_eq.mpr c4
  clear c4
  have H' := Aside0.mk H
  clear H
  go_wp2
  go_loopg [3, 6] k1 (fun kq v3 v6 w' => ∃ (x3_2 : List Int) (x6_2 : Int), v6 = .int .u64 x6_2 ∧ Aside0 (notaryref03_Tail.l1 kq x3_2 (IntKind.u64.wrap ((IntKind.u64.wrap (a0)) * 8)) x6_2 = some r) ∧ Aside0 (kq ≤ k1) ∧ Aside0 (Kd.R (Kd.int .u8) 5 w' w.heap.size (fun _ => True) v3 x3_2) ∧ Aside0 (Below w.heap.size w w'))
  case atStart => exact ⟨(x3_1), (72057594037927936), (by (rfl)), H', ⟨Nat.le_refl _⟩, ⟨by exact HO_3.out⟩, ⟨HB.out⟩⟩
  clear H'
  try clear c4b0
  try clear c4b1
  obtain ⟨x3_2, x6_2, rfl, HA, HK2, HO_3, HB⟩ := hrel
  rcases gk with _ | k2
  · exact absurd HA.out (by simp [notaryref03_Tail.l1])
  have H := HA.out
  clear HA
  simp only [notaryref03_Tail.l1] at H
  by_cases c5 : x6_2 > 0
  rotate_left
  · rw [if_neg c5] at H
    have c5b0 : decide (0 < x6_2) = false := decide_eq_false c5
    clear c5
    obtain rfl := Option.some.inj H
    go_wp2
    go_ret
    exact ⟨_, by (rfl), by exact HO_3.out, HB.out⟩
  rw [if_pos c5] at H
  have c5b0 : decide (0 < x6_2) = true := decide_eq_true c5
  clear c5
  by_cases c6 : x6_2 = 0
  · rw [if_pos c6] at H
    exact absurd H (by simp)
  rw [if_neg c6] at H
  have c6b0 : (x6_2 == 0) = false := beq_eq_false_iff_ne.mpr c6
  have c6b1 : (x6_2 != 0) = true := bne_iff_ne.mpr c6
  by_cases c7 : x3_2.length < 140737488355328
  rotate_left
  · rw [if_neg c7] at H
    exact absurd H (by simp)
  rw [if_pos c7] at H
  have LMc7 := Aside0.mk c7
  clear c7
  obtain ⟨y174, hy174⟩ : ∃ y_ : List Int, y_ = (x3_2 ++ [(Int.tmod (IntKind.u64.wrap (Int.tdiv (IntKind.u64.wrap ((IntKind.u64.wrap (a0)) * 8)) x6_2)) 256) % 256]) := ⟨_, rfl⟩
  replace H : (notaryref03_Tail.l1 k2 y174 (IntKind.u64.wrap ((IntKind.u64.wrap (a0)) * 8)) (IntKind.u64.wrap (Int.tdiv x6_2 256))) = some r := by (rw [hy174]; with_reducible exact H)
  have Ny174 := Aside0.mk hy174
  clear hy174
  have H' := Aside0.mk H
  clear H
  go_wp2_with ((((with_reducible refine gate_builtin (b := .append) (xs := #[.tmp 25, .tmp 31]) rfl ?_); at_builtin; refine Kd.R_append (Kd.int .u8) (w0 := w) w.heap.size rfl (.tmp 25) (.tmp 31) 22 5 (.int .u8 0) 1 rfl Try.underlying22 info5 rfl (by decide) (by omega) u3 x3_2 ((Int.tmod (IntKind.u64.wrap (Int.tdiv (IntKind.u64.wrap ((IntKind.u64.wrap (a0)) * 8)) x6_2)) 256) % 256) [.int .u8 ((Int.tmod (IntKind.u64.wrap (Int.tdiv (IntKind.u64.wrap ((IntKind.u64.wrap (a0)) * 8)) x6_2)) 256) % 256)] (fun _ => True) (fun _ => False) rfl rfl ?aP (fun _ hk => hk.elim) ?aF ?aO ?aB ?aS ?aL ?_; (case aP => exact rfl); (case aB => exact HB.out); (case aF => exact (fun _ _ => trivial)); (case aO => exact (by exact HO_3.out)); (case aS => exact (below_size HB.out)); (case aL => have := LMc7.out; omega); intro v175 w8 ho hb hg hat; rw [← Ny174.out] at ho; have n0_ := Aside0.mk (hb); have n1_ := Aside0.mk (ho); clear HB; clear HO_3; have HB := n0_; have HO176 := n1_; clear n0_ n1_; clear ho hb hg hat)))
  go_roundg k2
  case measure => have := HK1.out; have := HK2.out; omega
  case rel => exact ⟨(y174), (IntKind.u64.wrap (Int.tdiv x6_2 256)), (by (rfl)), H', ⟨by have := HK1.out; have := HK2.out; omega⟩, ⟨by exact HO176.out⟩, ⟨HB.out⟩⟩/-! ### notaryref02_Prime: function 96 -/
def notaryref02_Prime.l0 : Nat → Int → Int → Option (Bool)
  | 0, _, _ => none
  | k + 1, x0, x3 => if (wrap64 (x3 * x3)) ≤ x0 then (if x3 = 0 then (none) else (if (Int.tmod x0 x3) = 0 then (some false) else (notaryref02_Prime.l0 k x0 (wrap64 (x3 + 1))))) else (some (decide (x0 > 1)))
def notaryref02_Prime.f (k : Nat) (a0 : Int) : Option (Bool) := notaryref02_Prime.l0 k a0 2
theorem notaryref02_Prime.mono_l : ∀ k, (∀ y0 y1, LeO (notaryref02_Prime.l0 k y0 y1) (notaryref02_Prime.l0 (k + 1) y0 y1))
  | 0 => fun _ _ r h => by simp [notaryref02_Prime.l0] at h
  | k + 1 => by
    have ih0 := notaryref02_Prime.mono_l k
    · intro y0 y1
      unfold notaryref02_Prime.l0
      repeat' first | (with_reducible exact ih0 _ _) | (with_reducible exact LeO.refl _) | (with_reducible refine LeO.ite ?_ ?_)
theorem notaryref02_Prime.mono : ∀ a0 k, LeO (notaryref02_Prime.f k a0) (notaryref02_Prime.f (k + 1) a0) := by
  intro a0 k
  have ih0 := notaryref02_Prime.mono_l k
  unfold notaryref02_Prime.f
  repeat' first | (with_reducible exact ih0 _ _)
set_option maxHeartbeats 8000000 in
set_option maxRecDepth 100000 in
theorem notaryref02_Prime.calls (k : Nat) (a0 : Int) (r : Bool) (w : World) (h : notaryref02_Prime.f k a0 = some r) :
    Calls Try.prog 96 #[.int .i64 a0] w fun e w' => e = .returned (.bool r) ∧ Drawn0 w w' := by
  have H : (notaryref02_Prime.l0 k a0 2) = some r := h
  clear h
  have H' := Aside0.mk H
  clear H
  go_enter Try.func96, Try.ntmps96
  go_wp2
  go_loopg [3] k (fun kq v3 w' => ∃ (x3_1 : Int), v3 = .int .i64 x3_1 ∧ Aside0 (notaryref02_Prime.l0 kq a0 x3_1 = some r) ∧ Aside0 (kq ≤ k) ∧ Drawn0 w w')
  case atStart => exact ⟨(2), (by (rfl)), H', ⟨Nat.le_refl _⟩, by repeat (exact Drawn0.refl _)⟩
  clear H'
  obtain ⟨x3_1, rfl, HA, HK1, ⟨m1, rfl⟩⟩ := hrel
  rcases gk with _ | k1
  · exact absurd HA.out (by simp [notaryref02_Prime.l0])
  have H := HA.out
  clear HA
  simp only [notaryref02_Prime.l0] at H
  by_cases c2 : (wrap64 (x3_1 * x3_1)) ≤ a0
  rotate_left
  · rw [if_neg c2] at H
    have c2b0 : decide ((wrap64 (x3_1 * x3_1)) ≤ a0) = false := decide_eq_false c2
    clear c2
    obtain rfl := Option.some.inj H
    go_wp2
    go_ret
    exact ⟨by (rfl), by repeat (first | exact Drawn0.refl _ | apply Drawn0.step)⟩


  rw [if_pos c2] at H
  have c2b0 : decide ((wrap64 (x3_1 * x3_1)) ≤ a0) = true := decide_eq_true c2
  clear c2
  by_cases c3 : x3_1 = 0
  · rw [if_pos c3] at H
    exact absurd H (by simp)
  rw [if_neg c3] at H
  have c3b0 : (x3_1 == 0) = false := beq_eq_false_iff_ne.mpr c3
  have c3b1 : (x3_1 != 0) = true := bne_iff_ne.mpr c3
  by_cases c4 : (Int.tmod a0 x3_1) = 0
  · rw [if_pos c4] at H
    have c4b0 : ((Int.tmod a0 x3_1) == 0) = true := beq_iff_eq.mpr c4
    have c4b1 : ((Int.tmod a0 x3_1) != 0) = false := bne_eq_false_iff_eq.mpr c4
    clear c4
    obtain rfl := Option.some.inj H
    go_wp2
    go_ret
    exact ⟨by (rfl), by repeat (first | exact Drawn0.refl _ | apply Drawn0.step)⟩
  rw [if_neg c4] at H
  have c4b0 : ((Int.tmod a0 x3_1) == 0) = false := beq_eq_false_iff_ne.mpr c4
  have c4b1 : ((Int.tmod a0 x3_1) != 0) = true := bne_iff_ne.mpr c4
  have H' := Aside0.mk H
  clear H
  go_wp2
  go_roundg k1
  case measure => have := HK1.out; omega
  case rel => exact ⟨(wrap64 (x3_1 + 1)), (by (rfl)), H', ⟨by have := HK1.out; omega⟩, by repeat (first | exact Drawn0.refl _ | apply Drawn0.step)⟩/-! ### notaryref02_Primes: function 85 -/
mutual
def notaryref02_Primes.l0 : Nat → Int → List Int → Int → Option (List Int)
  | 0, _, _, _ => none
  | k + 1, x0, x3, x4 => if x4 < 600 then (if (x3.length : Int) < x0 then (notaryref02_Primes.j1 k x0 x3 x4 (decide ((x3.length : Int) < 100))) else (notaryref02_Primes.j1 k x0 x3 x4 false)) else (notaryref02_Primes.j1 k x0 x3 x4 false)
def notaryref02_Primes.j1 : Nat → Int → List Int → Int → Bool → Option (List Int)
  | 0, _, _, _, _ => none
  | k + 1, x0, x3, x4, x18 => if x18 = true then ((notaryref02_Prime.f k x4).bind fun t180 => (if t180 = true then (if x3.length < 17592186044416 then (notaryref02_Primes.l0 k x0 (x3 ++ [x4]) (wrap64 (x4 + 1))) else (none)) else (notaryref02_Primes.l0 k x0 x3 (wrap64 (x4 + 1))))) else (some x3)
end
def notaryref02_Primes.f (k : Nat) (a0 : Int) : Option (List Int) := notaryref02_Primes.l0 k a0 ([] : List Int) 2
theorem notaryref02_Primes.mono_l : ∀ k, (∀ y0 y1 y2, LeO (notaryref02_Primes.l0 k y0 y1 y2) (notaryref02_Primes.l0 (k + 1) y0 y1 y2)) ∧ (∀ y0 y1 y2 y3, LeO (notaryref02_Primes.j1 k y0 y1 y2 y3) (notaryref02_Primes.j1 (k + 1) y0 y1 y2 y3))
  | 0 => ⟨fun _ _ _ r h => by simp [notaryref02_Primes.l0] at h, fun _ _ _ _ r h => by simp [notaryref02_Primes.j1] at h⟩
  | k + 1 => by
    obtain ⟨ih0, ih1⟩ := notaryref02_Primes.mono_l k
    refine ⟨?_, ?_⟩
    · intro y0 y1 y2
      unfold notaryref02_Primes.l0
      repeat' first | (with_reducible exact ih1 _ _ _ _) | (with_reducible refine LeO.ite ?_ ?_)
    · intro y0 y1 y2 y3
      unfold notaryref02_Primes.j1
      repeat' first | (with_reducible exact ih0 _ _ _) | (with_reducible exact notaryref02_Prime.mono _ _) | (with_reducible exact LeO.refl _) | (with_reducible refine LeO.ite ?_ ?_) | (with_reducible refine LeO.bind ?_ (fun _ => ?_))
theorem notaryref02_Primes.mono : ∀ a0 k, LeO (notaryref02_Primes.f k a0) (notaryref02_Primes.f (k + 1) a0) := by
  intro a0 k
  obtain ⟨ih0, ih1⟩ := notaryref02_Primes.mono_l k
  unfold notaryref02_Primes.f
  repeat' first | (with_reducible exact ih0 _ _ _)
set_option maxHeartbeats 8000000 in
set_option maxRecDepth 100000 in
theorem notaryref02_Primes.calls (k : Nat) (a0 : Int) (r : List Int) (w : World) (h : notaryref02_Primes.f k a0 = some r) :
    Calls Try.prog 85 #[.int .i64 a0] w fun e w' => ∃ v0_ : Value, e = .returned (v0_) ∧ Kd.R (Kd.int .i64) 3 w' w.heap.size (fun _ => True) v0_ r ∧ Below w.heap.size w w' := by
  have HB := Aside0.mk (Below.refl w.heap.size w)
  have H : (notaryref02_Primes.l0 k a0 ([] : List Int) 2) = some r := h
  clear h
  obtain ⟨y177, hy177⟩ : ∃ y_ : List Int, y_ = ([] : List Int) := ⟨_, rfl⟩
  replace H : (notaryref02_Primes.l0 k a0 y177 2) = some r := by (rw [hy177]; with_reducible exact H)
  have Ny177 := Aside0.mk hy177
  clear hy177
  have H' := Aside0.mk H
  clear H
  go_enter Try.func85, Try.ntmps85
  go_wp2_with ((((with_reducible refine gate_dst (N := 5) rfl ?_); (try (refine gate_guard (by rfl) ?_; dsimp only)); refine Kd.R_lit (Kd.int .i64) _ 3 ?hg (N := 5) ?hd (xs := ([] : List Int)) (inner := []) (ok := fun _ => True) (okp := fun _ => True) ?hr ?hp (fun _ hk => hk) trivial (Below.refl _ _) (Nat.le_refl _) (by simp) ?_; (case hd => rfl); (case hg => rfl); (case hr => (go_simp; done)); (case hp => exact (Reps.none _ _)); intro v178 w2 ho3 hb hg_ hnew_; clear hg_ hnew_; (rw [← Ny177.out] at ho3); have n0_ := Aside0.mk (Kd.R_lower ho3 (below_size HB.out)); have n1_ := Aside0.mk (below_step HB.out hb); clear HB; have HO179 := n0_; have HB := n1_; clear n0_ n1_; clear hb ho3)))
  go_loopg [3, 4] k (fun kq v3 v4 w' => ∃ (x3_1 : List Int) (x4_1 : Int), v4 = .int .i64 x4_1 ∧ Aside0 (notaryref02_Primes.l0 kq a0 x3_1 x4_1 = some r) ∧ Aside0 (kq ≤ k) ∧ Aside0 (Kd.R (Kd.int .i64) 3 w' w.heap.size (fun _ => True) v3 x3_1) ∧ Aside0 (Below w.heap.size w w'))
  case atStart => exact ⟨(y177), (2), (by (rfl)), H', ⟨Nat.le_refl _⟩, ⟨by exact HO179.out⟩, ⟨HB.out⟩⟩
  clear H'
  obtain ⟨x3_1, x4_1, rfl, HA, HK1, HO_3, HB⟩ := hrel
  rcases gk with _ | k1
  · exact absurd HA.out (by simp [notaryref02_Primes.l0])
  have H := HA.out
  clear HA
  simp only [notaryref02_Primes.l0] at H
  have HC4 := Aside0.mk H
  clear H
  go_upto_region 3 with (fail)
  go_cut [18] (fun v18 wc => ∃ (kq : Nat) (x18_3 : Bool), v18 = .bool x18_3 ∧ Aside0 (notaryref02_Primes.j1 kq a0 x3_1 x4_1 x18_3 = some r) ∧ Aside0 (kq ≤ k1) ∧ Aside0 (Kd.R (Kd.int .i64) 3 wc w.heap.size (fun _ => True) u3 x3_1) ∧ Aside0 (Below w.heap.size w wc))
  case first =>
    have H := HC4.out
    clear HC4
    by_cases c5 : x4_1 < 600
    rotate_left
    · rw [if_neg c5] at H
      have c5b0 : decide (x4_1 < 600) = false := decide_eq_false c5
      clear c5
      (skip)
      have H' := Aside0.mk H
      clear H
      go_wp2
      go_meet
      case rel => exact ⟨_, (false), (by (rfl)), H', ⟨by have := HK1.out; (omega)⟩, ⟨by exact HO_3.out⟩, ⟨HB.out⟩⟩
    rw [if_pos c5] at H
    have c5b0 : decide (x4_1 < 600) = true := decide_eq_true c5
    clear c5
    (skip)
    by_cases c6 : (x3_1.length : Int) < a0
    rotate_left
    · rw [if_neg c6] at H
      have c6b0 : decide ((x3_1.length : Int) < a0) = false := decide_eq_false c6
      clear c6
      have H' := Aside0.mk H
      clear H
      obtain ⟨Ao8, co8, eo8⟩ := Kd.R_slice HO_3.out
      subst eo8
      go_wp2
      go_meet
      case rel => exact ⟨_, (false), (by (rfl)), H', ⟨by have := HK1.out; (omega)⟩, ⟨by exact HO_3.out⟩, ⟨HB.out⟩⟩
    rw [if_pos c6] at H
    have c6b0 : decide ((x3_1.length : Int) < a0) = true := decide_eq_true c6
    clear c6
    have H' := Aside0.mk H
    clear H
    obtain ⟨Ao7, co7, eo7⟩ := Kd.R_slice HO_3.out
    subst eo7
    go_wp2
    go_meet
    case rel => exact ⟨_, (decide ((x3_1.length : Int) < 100)), (by (rfl)), H', ⟨by have := HK1.out; (omega)⟩, ⟨by exact HO_3.out⟩, ⟨HB.out⟩⟩
  clear HC4
  obtain ⟨kq, x18_3, rfl, HA, HJ3, HO_3, HB⟩ := hcut
  rcases kq with _ | kj3
  · exact absurd HA.out (by simp [notaryref02_Primes.j1])
  have H := HA.out
  clear HA
  simp only [notaryref02_Primes.j1] at H
  by_cases c9 : x18_3 = true
  rotate_left
  · replace c9 := Bool.eq_false_iff.mpr c9
    subst c9
    have H1 : (some x3_1) = some r := by rw [if_neg (show ¬ (false = true) by decide)] at H; exact H
    clear H
    have H := H1
    clear H1
    obtain rfl := Option.some.inj H
    go_wp2
    go_ret
    exact ⟨_, by (rfl), by exact HO_3.out, HB.out⟩


  subst c9
  have H1 : ((notaryref02_Prime.f kj3 x4_1).bind fun t180 => (if t180 = true then (if x3_1.length < 17592186044416 then (notaryref02_Primes.l0 kj3 a0 (x3_1 ++ [x4_1]) (wrap64 (x4_1 + 1))) else (none)) else (notaryref02_Primes.l0 kj3 a0 x3_1 (wrap64 (x4_1 + 1))))) = some r := by rw [if_pos rfl] at H; exact H
  clear H
  have H := H1
  clear H1
  replace H := Option.bind_eq_some_iff.mp H
  obtain ⟨t180, A100, H⟩ := H
  replace H : (if t180 = true then (if x3_1.length < 17592186044416 then (notaryref02_Primes.l0 kj3 a0 (x3_1 ++ [x4_1]) (wrap64 (x4_1 + 1))) else (none)) else (notaryref02_Primes.l0 kj3 a0 x3_1 (wrap64 (x4_1 + 1)))) = some r := H
  have A10 := Aside0.mk A100
  clear A100
  by_cases c11 : t180 = true
  rotate_left
  · replace c11 := Bool.eq_false_iff.mpr c11
    subst c11
    have H1 : (notaryref02_Primes.l0 kj3 a0 x3_1 (wrap64 (x4_1 + 1))) = some r := by rw [if_neg (show ¬ (false = true) by decide)] at H; exact H
    clear H
    have H := H1
    clear H1
    have H' := Aside0.mk H
    clear H
    go_wp2_with ((((with_reducible refine gate_callee (f := 96) rfl ?_); refine goesL_ (some 22) rfl rfl Try.func96 (by kernel_rfl) rfl #[.int .i64 x4_1] rfl (by (try simp only [List.map_toArray, List.map_cons, List.map_nil]); (rfl)) ?_; (with_reducible refine (notaryref02_Prime.calls kj3 x4_1 false _ A10.out).mono ?_); rintro e w' ⟨rfl, ⟨nd, rfl⟩⟩; refine ⟨_, rfl, ?_⟩)))
    go_roundg kj3
    case measure => have := HK1.out; have := HJ3.out; omega
    case rel => exact ⟨(x3_1), (wrap64 (x4_1 + 1)), (by (rfl)), H', ⟨by have := HK1.out; have := HJ3.out; omega⟩, ⟨by (with_reducible repeat (apply Kd.R_drewN)); exact HO_3.out⟩, ⟨by repeat (with_reducible first | exact HB.out | apply pw_below_drewN)⟩⟩
  subst c11
  have H1 : (if x3_1.length < 17592186044416 then (notaryref02_Primes.l0 kj3 a0 (x3_1 ++ [x4_1]) (wrap64 (x4_1 + 1))) else (none)) = some r := by rw [if_pos rfl] at H; exact H
  clear H
  have H := H1
  clear H1
  by_cases c12 : x3_1.length < 17592186044416
  rotate_left
  · rw [if_neg c12] at H
    exact absurd H (by simp)
  rw [if_pos c12] at H
  have LMc12 := Aside0.mk c12
  clear c12
  obtain ⟨y181, hy181⟩ : ∃ y_ : List Int, y_ = (x3_1 ++ [x4_1]) := ⟨_, rfl⟩
  replace H : (notaryref02_Primes.l0 kj3 a0 y181 (wrap64 (x4_1 + 1))) = some r := by (rw [hy181]; with_reducible exact H)
  have Ny181 := Aside0.mk hy181
  clear hy181
  have H' := Aside0.mk H
  clear H
  go_wp2_with (first | ((with_reducible refine gate_callee (f := 96) rfl ?_); refine goesL_ (some 22) rfl rfl Try.func96 (by kernel_rfl) rfl #[.int .i64 x4_1] rfl (by (try simp only [List.map_toArray, List.map_cons, List.map_nil]); (rfl)) ?_; (with_reducible refine (notaryref02_Prime.calls kj3 x4_1 true _ A10.out).mono ?_); rintro e w' ⟨rfl, ⟨nd, rfl⟩⟩; refine ⟨_, rfl, ?_⟩) | ((with_reducible refine gate_builtin (b := .append) (xs := #[.tmp 23, .tmp 25]) rfl ?_); (try (refine gate_guard (by rfl) ?_; dsimp only)); at_builtin; refine Kd.R_append (Kd.int .i64) (w0 := w) w.heap.size rfl (.tmp 23) (.tmp 25) 116 3 (.int .i64 0) 8 rfl Try.underlying116 info3 rfl (by decide) (by omega) u3 x3_1 x4_1 [.int .i64 x4_1] (fun _ => True) (fun _ => False) rfl rfl ?aP (fun _ hk => hk.elim) ?aF ?aO ?aB ?aS ?aL ?_; (case aP => exact rfl); (case aB => exact (by repeat (with_reducible first | exact HB.out | apply pw_below_drewN))); (case aF => exact (fun _ _ => trivial)); (case aO => exact (by (with_reducible repeat (apply Kd.R_drewN)); exact HO_3.out)); (case aS => exact (below_size (by repeat (with_reducible first | exact HB.out | apply pw_below_drewN)))); (case aL => have := LMc12.out; omega); intro v182 w13 ho hb hg hat; rw [← Ny181.out] at ho; have n0_ := Aside0.mk (hb); have n1_ := Aside0.mk (ho); clear HB; clear HO_3; have HB := n0_; have HO183 := n1_; clear n0_ n1_; clear ho hb hg hat))
  go_roundg kj3
  case measure => have := HK1.out; have := HJ3.out; omega
  case rel => exact ⟨(y181), (wrap64 (x4_1 + 1)), (by (rfl)), H', ⟨by have := HK1.out; have := HJ3.out; omega⟩, ⟨by exact HO183.out⟩, ⟨HB.out⟩⟩/-! ### notaryref02_Shifted: function 97 -/
def notaryref02_Shifted.f (a0 : Int) (a1 : Int) : Option (List Int) := if 20 ≤ 35184372088832 then ((some (List.replicate 20 0 : List Int)).bind fun y184 => (if 0 ≤ a1 then (if a1 < (y184.length : Int) then (if 0 ≤ (wrap64 (a1 + 1)) then (if (wrap64 (a1 + 1)) < (y184.length : Int) then (some ((y184.set (a1 : Int).toNat (Int.tmod a0 65536)).set ((wrap64 (a1 + 1)) : Int).toNat (IntKind.u64.wrap (Int.tdiv a0 65536)))) else (none)) else (none)) else (none)) else (none))) else (none)
set_option maxHeartbeats 8000000 in
set_option maxRecDepth 100000 in
theorem notaryref02_Shifted.calls (a0 : Int) (a1 : Int) (r : List Int) (w : World) (h : notaryref02_Shifted.f a0 a1 = some r) :
    Calls Try.prog 97 #[.int .u64 a0, .int .i64 a1] w fun e w' => ∃ v0_ : Value, e = .returned (v0_) ∧ Kd.R (Kd.int .u64) 92 w' w.heap.size (fun _ => True) v0_ r ∧ Below w.heap.size w w' := by
  have HB := Aside0.mk (Below.refl w.heap.size w)
  have H : (if 20 ≤ 35184372088832 then ((some (List.replicate 20 0 : List Int)).bind fun y184 => (if 0 ≤ a1 then (if a1 < (y184.length : Int) then (if 0 ≤ (wrap64 (a1 + 1)) then (if (wrap64 (a1 + 1)) < (y184.length : Int) then (some ((y184.set (a1 : Int).toNat (Int.tmod a0 65536)).set ((wrap64 (a1 + 1)) : Int).toNat (IntKind.u64.wrap (Int.tdiv a0 65536)))) else (none)) else (none)) else (none)) else (none))) else (none)) = some r := h
  clear h
  by_cases c3 : 20 ≤ 35184372088832
  rotate_left
  · rw [if_neg c3] at H
    exact absurd H (by simp)


  rw [if_pos c3] at H
  have c3b0 := eq_true c3
  have c3b1 : decide (20 ≤ 35184372088832) = true := decide_eq_true c3
  clear c3
  obtain ⟨y184, hy184⟩ : ∃ y_ : List Int, y_ = (List.replicate 20 0) := ⟨_, rfl⟩
  replace H : (if 0 ≤ a1 then (if a1 < (y184.length : Int) then (if 0 ≤ (wrap64 (a1 + 1)) then (if (wrap64 (a1 + 1)) < (y184.length : Int) then (some ((y184.set (a1 : Int).toNat (Int.tmod a0 65536)).set ((wrap64 (a1 + 1)) : Int).toNat (IntKind.u64.wrap (Int.tdiv a0 65536)))) else (none)) else (none)) else (none)) else (none)) = some r := by ((have H2_ := (Option.bind_some _ _).symm.trans H; rw [hy184]; with_reducible exact H2_))
  have Ny184 := Aside0.mk hy184
  clear hy184
  by_cases c4 : 0 ≤ a1
  rotate_left
  · rw [if_neg c4] at H
    exact absurd H (by simp)
  rw [if_pos c4] at H
  have c4b0 : decide (0 ≤ a1) = true := decide_eq_true c4
  clear c4
  by_cases c5 : a1 < (y184.length : Int)
  rotate_left
  · rw [if_neg c5] at H
    exact absurd H (by simp)
  rw [if_pos c5] at H
  have c5b0 : decide (a1 < (y184.length : Int)) = true := decide_eq_true c5
  clear c5
  obtain ⟨y187, hy187⟩ : ∃ y_ : List Int, y_ = (y184.set (a1 : Int).toNat (Int.tmod a0 65536)) := ⟨_, rfl⟩
  replace H : (if 0 ≤ (wrap64 (a1 + 1)) then (if (wrap64 (a1 + 1)) < (y184.length : Int) then (some (y187.set ((wrap64 (a1 + 1)) : Int).toNat (IntKind.u64.wrap (Int.tdiv a0 65536)))) else (none)) else (none)) = some r := by (rw [hy187]; with_reducible exact H)
  have Ny187 := Aside0.mk hy187
  clear hy187
  obtain ⟨ji7, hji7⟩ : ∃ j_ : Int, (wrap64 (a1 + 1)) = j_ := ⟨_, rfl⟩
  replace H : (if 0 ≤ (ji7) then (if (ji7) < (y184.length : Int) then (some (y187.set ((ji7) : Int).toNat (IntKind.u64.wrap (Int.tdiv a0 65536)))) else (none)) else (none)) = some r := by (rw [hji7] at H; exact H)
  have hji7w : (IntKind.i64.wrap (a1 + 1)) = ji7 := (i64_w _).trans hji7
  by_cases c8 : 0 ≤ (ji7)
  rotate_left
  · rw [if_neg c8] at H
    exact absurd H (by simp)
  rw [if_pos c8] at H
  have c8b0 : decide (0 ≤ (ji7)) = true := decide_eq_true c8
  clear c8
  by_cases c9 : (ji7) < (y184.length : Int)
  rotate_left
  · rw [if_neg c9] at H
    exact absurd H (by simp)
  rw [if_pos c9] at H
  have c9b0 : decide ((ji7) < (y184.length : Int)) = true := decide_eq_true c9
  clear c9
  obtain ⟨y188, hy188⟩ : ∃ y_ : List Int, y_ = (y187.set ((ji7) : Int).toNat (IntKind.u64.wrap (Int.tdiv a0 65536))) := ⟨_, rfl⟩
  replace H : (some y188) = some r := by (rw [hy188]; with_reducible exact H)
  have Ny188 := Aside0.mk hy188
  clear hy188
  obtain rfl := Option.some.inj H
  go_enter Try.func97, Try.ntmps97
  go_wp2_with (first | ((with_reducible refine gate_dst (N := 6) rfl ?_); refine Kd.R_make (Kd.int .u64) _ 92 rfl (N := 6) rfl 129 _ _ rfl 20 rfl rfl Try.underlying129 (.int .u64 0) 8 info92 rfl (by decide) (by omega) 0 (ok := fun _ => True) (okp := fun _ => True) rfl (fun _ hk => hk) trivial (by omega) (by omega) (Below.refl _ _) (Nat.le_refl _) ?_; intro v185 w11 ho12 hb hg_ hnew_; clear hg_ hnew_; (simp only [Int.reduceToNat] at ho12; rw [← Ny184.out] at ho12); have n0_ := Aside0.mk (Kd.R_lower ho12 (below_size HB.out)); have n1_ := Aside0.mk (below_step HB.out hb); clear HB; have HO186 := n0_; have HB := n1_; clear n0_ n1_; clear hb ho12; have p6 : 0 ≤ (a1 : Int) := of_decide_eq_true (by (with_reducible assumption)); have q6 : (a1 : Int) < ((y184.length : Int) : Int) := of_decide_eq_true (by (with_reducible assumption)); obtain ⟨go6, co6, eo6, gb6, gl6, cl6, HG6⟩ := Kd.R_form HO186.out (by omega); (cases eo6); have GB6 := Aside0.mk gb6; have GG6 := Aside0.mk HG6; clear gb6 gl6 HG6; obtain ⟨hx6_0, hf6_0⟩ := Kd.R_celln 0 HO186.out (a1 : Int) p6 q6; replace p6 := eq_true p6; replace q6 := eq_true q6; obtain ⟨hy13_, hz13_⟩ := Kd.R_celln 0 HO186.out (a1 : Int) (of_decide_eq_true (by (with_reducible assumption))) (of_decide_eq_true (by (with_reducible assumption))); have HP13 := Kd.R_putg HO186.out (a1 : Int) (Int.tmod a0 65536)) | ((with_reducible refine gate_store (t := 92) (p := 11) rfl ?_); refine store_event (t := 92) (p := 11) (v := ?vo_w14) (w1 := (w11.setCell ⟨go6, (a1 : Int).toNat, none⟩ (.int .u64 (Int.tmod a0 65536)))) ?hg ?ho ?hn ?hr ?_; (case ho => rfl); (case hg => rfl); (case hn => rfl); (case hr => (go_simp; done)); intro w14 hw; have hg : w11.grownBy w14 (some go6) := (by rw [hw]; exact HP13.2); have hp_ : Kd.R (Kd.int .u64) 92 w14 w.heap.size (fun _ => True) (.slice (some ⟨go6, 0, none⟩) y184.length co6) y187 := (by rw [hw, Ny187.out]; exact HP13.1); clear HP13; have n0_ := Aside0.mk (hp_); have n1_ := Aside0.mk ((by rw [hw]; exact below_set (HB.out) GB6.out : Below w.heap.size w w14)); clear HO186; clear HB; have HO186 := n0_; have HB := n1_; clear n0_ n1_; clear hg hw hp_; have p10 : 0 ≤ ((ji7) : Int) := of_decide_eq_true (by (with_reducible assumption)); have q10 : ((ji7) : Int) < ((y184.length : Int) : Int) := of_decide_eq_true (by (with_reducible assumption)); obtain ⟨hx10_0, hf10_0⟩ := Kd.R_celln 0 HO186.out ((ji7) : Int) p10 q10; replace p10 := eq_true p10; replace q10 := eq_true q10; obtain ⟨hy15_, hz15_⟩ := Kd.R_celln 0 HO186.out ((ji7) : Int) (of_decide_eq_true (by (with_reducible assumption))) (of_decide_eq_true (by (with_reducible assumption))); have HP15 := Kd.R_putg HO186.out ((ji7) : Int) (IntKind.u64.wrap (Int.tdiv a0 65536))) | ((with_reducible refine gate_store (t := 92) (p := 17) rfl ?_); refine store_event (t := 92) (p := 17) (v := ?vo_w16) (w1 := (w14.setCell ⟨go6, ((ji7) : Int).toNat, none⟩ (.int .u64 (IntKind.u64.wrap (Int.tdiv a0 65536))))) ?hg ?ho ?hn ?hr ?_; (case ho => rfl); (case hg => rfl); (case hn => rfl); (case hr => (go_simp; done)); intro w16 hw; have hg : w14.grownBy w16 (some go6) := (by rw [hw]; exact HP15.2); have hp_ : Kd.R (Kd.int .u64) 92 w16 w.heap.size (fun _ => True) (.slice (some ⟨go6, 0, none⟩) y184.length co6) y188 := (by rw [hw, Ny188.out]; exact HP15.1); clear HP15; have n0_ := Aside0.mk (hp_); have n1_ := Aside0.mk ((by rw [hw]; exact below_set (HB.out) GB6.out : Below w.heap.size w w16)); clear HO186; clear HB; have HO186 := n0_; have HB := n1_; clear n0_ n1_; clear hg hw hp_))
  go_ret
  exact ⟨_, by (rfl), by exact HO186.out, HB.out⟩/-! ### notaryref02_Clip: function 98 -/
def notaryref02_Clip.f (a0 : Int) : Option (Int) := if a0 < 0 then (some 0) else (if a0 > 65536 then (some 65536) else (some (IntKind.u64.wrap (a0))))
set_option maxHeartbeats 8000000 in
set_option maxRecDepth 100000 in
theorem notaryref02_Clip.calls (a0 : Int) (r : Int) (w : World) (h : notaryref02_Clip.f a0 = some r) :
    Calls Try.prog 98 #[.int .i64 a0] w fun e w' => e = .returned (.int .u64 r) ∧ Drawn0 w w' := by
  have H : (if a0 < 0 then (some 0) else (if a0 > 65536 then (some 65536) else (some (IntKind.u64.wrap (a0))))) = some r := h
  clear h
  by_cases c2 : a0 < 0
  · rw [if_pos c2] at H
    have c2b0 : decide (a0 < 0) = true := decide_eq_true c2
    clear c2
    obtain rfl := Option.some.inj H
    go_enter Try.func98, Try.ntmps98
    go_wp2
    go_ret
    exact ⟨by (rfl), by repeat (exact Drawn0.refl _)⟩
  rw [if_neg c2] at H
  have c2b0 : decide (a0 < 0) = false := decide_eq_false c2
  clear c2
  by_cases c3 : a0 > 65536
  · rw [if_pos c3] at H
    have c3b0 : decide (65536 < a0) = true := decide_eq_true c3
    clear c3
    obtain rfl := Option.some.inj H
    go_enter Try.func98, Try.ntmps98
    go_wp2
    go_ret
    exact ⟨by (rfl), by repeat (exact Drawn0.refl _)⟩
  rw [if_neg c3] at H
  have c3b0 : decide (65536 < a0) = false := decide_eq_false c3
  clear c3
  obtain rfl := Option.some.inj H
  go_enter Try.func98, Try.ntmps98
  go_wp2
  go_ret
  exact ⟨by (rfl), by repeat (exact Drawn0.refl _)⟩

end Go.Proofs.Ytogjnipojakfjaa.PJd
