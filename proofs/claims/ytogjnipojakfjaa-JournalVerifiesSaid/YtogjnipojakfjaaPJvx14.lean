-- SLIM: a printed text of which the unused ways are cut off
-- PRINTED by print.py (a twelfth state) out of the translation. Not trusted: Lean checks it.
import Derived.Test.YtogjnipojakfjaaPJvx0
import Derived.Test.YtogjnipojakfjaaPJvx5
import Derived.Test.YtogjnipojakfjaaPJvx6
import Derived.Test.YtogjnipojakfjaaPJvx11
namespace Go.Proofs.Ytogjnipojakfjaa.PJv
open Go.RowKit Go.Proofs.YtogjnipojakfjaaW.PrintWords Go.Proofs.YtogjnipojakfjaaW.PrintLast Go.Proofs.YtogjnipojakfjaaW.PrintMore
attribute [local go_sem] max2_int min2_int max_two min_two max_three min_three max_four min_four   -- for this text's walks alone
set_option linter.unusedVariables false
set_option linter.unusedSimpArgs false

/-! ### notaryref47_Frames: function 61 -/
def notaryref47_Frames.l0 : Nat → List Int → List (S35) → List (List Int) → Int → Option ((List (S35)) × (List (List Int)) × Int)
  | 0, _, _, _, _ => none
  | k + 1, x0, x5, x6, x7 => if x7 < (x0.length : Int) then ((notaryref46_Read.f k x0 x7).bind fun bt490 => (if bt490.2.2.2.2 = 0 then (if x5.length < 4398046511104 then (if x6.length < 5864062014805 then (notaryref47_Frames.l0 k x0 (x5 ++ [(⟨bt490.1, bt490.2.1⟩ : S35)]) (x6 ++ [bt490.2.2.1]) bt490.2.2.2.1) else (none)) else (none)) else (some (x5, x6, bt490.2.2.2.2)))) else (some (x5, x6, 0))
def notaryref47_Frames.f (k : Nat) (l0 : List Int) : Option ((List (S35)) × (List (List Int)) × Int) := notaryref47_Frames.l0 k l0 (([] : List (S35))) (([] : List (List Int))) 0
set_option maxHeartbeats 8000000 in
set_option maxRecDepth 100000 in
theorem notaryref47_Frames.calls (k : Nat) (A0 : Option Addr) (c0 : Nat) (l0 : List Int) (r1 : List (S35)) (r2 : List (List Int)) (r3 : Int) (w : World) (hr0 : Kd.C (Kd.int .u8) w A0 l0.length l0) (hc0 : l0.length ≤ c0) (h : notaryref47_Frames.f k l0 = some (r1, r2, r3)) :
    Calls Try.prog 61 #[.slice A0 l0.length c0] w fun e w' => ∃ v0_ v1_ : Value, e = .returned (.tuple #[v0_, v1_, .int .i64 r3]) ∧ Kd.S k35 35 w' w.heap.size (fun _ => True) v0_ r1 ∧ Kd.S (Kd.slice 5 (Kd.int .u8)) 22 w' w.heap.size (fun _ => True) v1_ r2 ∧ Below w.heap.size w w' := by
  have hu35 := Try.underlying35
  have HR0 := Aside0.mk hr0
  have HC0 := Aside0.mk hc0
  clear hr0 hc0
  have HB := Aside0.mk (Below.refl w.heap.size w)
  have H : (notaryref47_Frames.l0 k l0 (([] : List (S35))) (([] : List (List Int))) 0) = some (r1, r2, r3) := h
  clear h
  obtain ⟨y484, hy484⟩ : ∃ y_ : List (S35), y_ = (([] : List (S35))) := ⟨_, rfl⟩
  replace H : (notaryref47_Frames.l0 k l0 y484 (([] : List (List Int))) 0) = some (r1, r2, r3) := by (rw [hy484]; with_reducible exact H)
  have Ny484 := Aside0.mk hy484
  clear hy484
  obtain ⟨y487, hy487⟩ : ∃ y_ : List (List Int), y_ = (([] : List (List Int))) := ⟨_, rfl⟩
  replace H : (notaryref47_Frames.l0 k l0 y484 y487 0) = some (r1, r2, r3) := by (rw [hy487]; with_reducible exact H)
  have Ny487 := Aside0.mk hy487
  clear hy487
  have H' := Aside0.mk H
  clear H
  go_enter Try.func61, Try.ntmps61
  go_wp2_with (first | ((with_reducible refine gate_dst (N := 12) rfl ?_); refine Kd.S_lit k35 _ 35 ?hg (N := 12) ?hd (xs := ([] : List (S35))) (inner := []) (ok := fun _ => True) (okp := fun _ => True) ?hr ?hp (fun _ hk => hk) trivial (Below.refl _ _) (Nat.le_refl _) (by simp) ?_; (case hd => rfl); (case hg => rfl); (case hr => (go_simp; done)); (case hp => exact (Reps.none _ _)); intro v485 w2 ho3 hb hg_ hnew_; clear hg_ hnew_; (rw [← Ny484.out] at ho3); have n0_ := Aside0.mk (Kd.S_lower ho3 (below_size HB.out)); have n1_ := Aside0.mk (below_step HB.out hb); clear HB; have HO486 := n0_; have HB := n1_; clear n0_ n1_; clear hb ho3) | ((with_reducible refine gate_dst (N := 13) rfl ?_); refine Kd.S_lit (Kd.slice 5 (Kd.int .u8)) _ 22 ?hg (N := 13) ?hd (xs := ([] : List (List Int))) (inner := []) (ok := fun _ => True) (okp := fun _ => True) ?hr ?hp (fun _ hk => hk) trivial (Below.refl _ _) (Nat.le_refl _) (by simp) ?_; (case hd => rfl); (case hg => rfl); (case hr => (go_simp; done)); (case hp => exact (Reps.none _ _)); intro v488 w4 ho5 hb hg_ hnew_; clear hg_ hnew_; (rw [← Ny487.out] at ho5); have n0_ := Aside0.mk (Kd.S_below (by exact HO486.out) hb); have n1_ := Aside0.mk (Kd.S_lower ho5 (below_size HB.out)); have n2_ := Aside0.mk (below_step HB.out hb); clear HO486; clear HB; have HO486 := n0_; have HO489 := n1_; have HB := n2_; clear n0_ n1_ n2_; clear hb ho5))
  go_loopg [5, 6, 7] k (fun kq v5 v6 v7 w' => ∃ (x5_1 : List (S35)) (x6_1 : List (List Int)) (x7_1 : Int), v7 = .int .i64 x7_1 ∧ Aside0 (notaryref47_Frames.l0 kq l0 x5_1 x6_1 x7_1 = some (r1, r2, r3)) ∧ Aside0 (kq ≤ k) ∧ Aside0 (Kd.S k35 35 w' w.heap.size (fun _ => True) v5 x5_1) ∧ Aside0 (Kd.S (Kd.slice 5 (Kd.int .u8)) 22 w' w.heap.size (fun _ => True) v6 x6_1) ∧ Aside0 (Below w.heap.size w w'))
  case atStart => exact ⟨(y484), (y487), (0), (by (rfl)), H', ⟨Nat.le_refl _⟩, ⟨by exact HO486.out⟩, ⟨by exact HO489.out⟩, ⟨HB.out⟩⟩
  clear H'
  obtain ⟨x5_1, x6_1, x7_1, rfl, HA, HK1, HO_5, HO_6, HB⟩ := hrel
  rcases gk with _ | k1
  · exact absurd HA.out (by simp [notaryref47_Frames.l0])
  have H := HA.out
  clear HA
  simp only [notaryref47_Frames.l0] at H
  by_cases c6 : x7_1 < (l0.length : Int)
  rotate_left
  · rw [if_neg c6] at H
    have c6b0 : decide (x7_1 < (l0.length : Int)) = false := decide_eq_false c6
    clear c6
    simp only [Option.some.injEq, Prod.mk.injEq] at H
    obtain ⟨rfl, rfl, rfl⟩ := H
    go_wp2
    go_ret3
    exact ⟨_, _, by (rfl), by exact HO_5.out, by exact HO_6.out, HB.out⟩


  rw [if_pos c6] at H
  have c6b0 : decide (x7_1 < (l0.length : Int)) = true := decide_eq_true c6
  clear c6
  replace H := Option.bind_eq_some_iff.mp H
  obtain ⟨⟨t490, t491, t494, t497, t498⟩, A70, H⟩ := H
  replace H : (if t498 = 0 then (if x5_1.length < 4398046511104 then (if x6_1.length < 5864062014805 then (notaryref47_Frames.l0 k1 l0 (x5_1 ++ [(⟨t490, t491⟩ : S35)]) (x6_1 ++ [t494]) t497) else (none)) else (none)) else (some (x5_1, x6_1, t498))) = some (r1, r2, r3) := H
  have A7 := Aside0.mk A70
  clear A70
  by_cases c8 : t498 = 0
  rotate_left
  · rw [if_neg c8] at H
    have c8b0 : (t498 == 0) = false := beq_eq_false_iff_ne.mpr c8
    have c8b1 : (t498 != 0) = true := bne_iff_ne.mpr c8
    simp only [Option.some.injEq, Prod.mk.injEq] at H
    obtain ⟨rfl, rfl, rfl⟩ := H
    go_wp2_with (first | ((with_reducible refine gate_callee (f := 43) rfl ?_); refine goesL_ (some 21) rfl rfl Try.func43 (by kernel_rfl) rfl #[.slice A0 l0.length c0, .int .i64 x7_1] rfl (by (try simp only [List.map_toArray, List.map_cons, List.map_nil]); (rfl)) ?_; (with_reducible refine (notaryref46_Read.calls k1 _ _ l0 x7_1 t490 t491 t494 t497 t498 _ ?side1 ?side2 A7.out).mono ?_); (case side1 => exact Kd.C_below HR0.out HB.out); (case side2 => exact HC0.out); rintro e w20 ⟨v492, v495, rfl, ho0, ho1, hb⟩; refine ⟨_, rfl, ?_⟩; have n0_ := Aside0.mk (Kd.S_mono (Kd.S_told (Kd.S_told (Kd.S_old (by exact HO_5.out) hb) (Kd.R_base ho0)) (Kd.R_base ho1)) (fun _ h_ => h_.1)); have n1_ := Aside0.mk (Kd.S_mono (Kd.S_told (Kd.S_told (Kd.S_old (by exact HO_6.out) hb) (Kd.R_base ho0)) (Kd.R_base ho1)) (fun _ h_ => h_.1)); have n2_ := Aside0.mk (Kd.R_lower ho0 (below_size HB.out)); have n3_ := Aside0.mk (Kd.R_lower ho1 (below_size HB.out)); have n4_ := Aside0.mk (below_step HB.out hb); clear HO_5; clear HO_6; clear HB; have HO_5 := n0_; have HO_6 := n1_; have HO493 := n2_; have HO496 := n3_; have HB := n4_; clear n0_ n1_ n2_ n3_ n4_; (try clear hb); (try clear ho0); (try clear ho1)) | ((with_reducible refine gate_dst (N := 8) rfl ?_); refine box_event ?hg (N := 8) ?hd (cs := #[.int .i64 0, .slice none 0 0]) (t := 35) ?hr ?_; (case hd => rfl); (case hg => rfl); (case hr => (go_simp; done)); intro gb499 hg w21 hbox hb; have n0_ := Aside0.mk (Kd.S_below (Kd.S_elderB (by exact HO_5.out) gb499 (Nat.le_of_eq hg.symm)) hb); have n1_ := Aside0.mk (Kd.S_below (by exact HO_6.out) hb); have n2_ := Aside0.mk (Kd.R_below (by exact HO493.out) hb); have n3_ := Aside0.mk (Kd.R_below (by exact HO496.out) hb); have n4_ := Aside0.mk (below_step HB.out hb); have n5_ := Aside0.mk (hbox); have n6_ := Aside0.mk ((by rw [hg]; exact (below_size HB.out) : w.heap.size ≤ gb499)); have n7_ := Aside0.mk ((by rw [hg]; exact (below_size HB.out) : w.heap.size ≤ gb499)); clear HO_5; clear HO_6; clear HO493; clear HO496; clear HB; have HO_5 := n0_; have HO_6 := n1_; have HO493 := n2_; have HO496 := n3_; have HB := n4_; have BK499 := n5_; have GW499 := n6_; have GE499 := n7_; clear n0_ n1_ n2_ n3_ n4_ n5_ n6_ n7_; clear hb hbox hg; have hcz22_0 : w21.cell? ⟨gb499, 0, none⟩ = some (.int .i64 0) := (blk_cell BK499.out 0).trans rfl; have hcz22_1 : w21.cell? ⟨gb499, 1, none⟩ = some (.slice none 0 0) := (blk_cell BK499.out 1).trans rfl; have hfz22_0 := blk_frozen BK499.out 0; have hfz22_1 := blk_frozen BK499.out 1; obtain ⟨Ao23, co23, eo23⟩ := Kd.R_slice HO493.out; subst eo23))
    go_ret3
    exact ⟨_, _, by (rfl), by exact Kd.S_mono (Kd.S_far (p := ⟨gb499, 1, none⟩) (Kd.S_far (p := ⟨gb499, 0, none⟩) (Kd.S_mono HO_5.out (fun k_ hk => (⟨hk, hk.2⟩ : _ ∧ k_ ≠ gb499))) (fun _ hk => hk.2) (.int .i64 t490)) (fun _ hk => hk.2) (.slice Ao23 t491.length co23)) (fun _ hk => trivial), by exact Kd.S_mono (Kd.S_far (p := ⟨gb499, 1, none⟩) (Kd.S_far (p := ⟨gb499, 0, none⟩) (Kd.S_types HO_6.out BK499.out (by decide)) (fun _ hk => hk.2) (.int .i64 t490)) (fun _ hk => hk.2) (.slice Ao23 t491.length co23)) (fun _ hk => trivial), by repeat (with_reducible first | exact HB.out | refine below_set ?_ GE499.out)⟩
  rw [if_pos c8] at H
  have c8b0 : (t498 == 0) = true := beq_iff_eq.mpr c8
  have c8b1 : (t498 != 0) = false := bne_eq_false_iff_eq.mpr c8
  clear c8
  by_cases c9 : x5_1.length < 4398046511104
  rotate_left
  · rw [if_neg c9] at H
    exact absurd H (by simp)
  rw [if_pos c9] at H
  have LMc9 := Aside0.mk c9
  clear c9
  obtain ⟨y500, hy500⟩ : ∃ y_ : List (S35), y_ = (x5_1 ++ [(⟨t490, t491⟩ : S35)]) := ⟨_, rfl⟩
  replace H : (if x6_1.length < 5864062014805 then (notaryref47_Frames.l0 k1 l0 y500 (x6_1 ++ [t494]) t497) else (none)) = some (r1, r2, r3) := by (rw [hy500]; with_reducible exact H)
  have Ny500 := Aside0.mk hy500
  clear hy500
  by_cases c10 : x6_1.length < 5864062014805
  rotate_left
  · rw [if_neg c10] at H
    exact absurd H (by simp)
  rw [if_pos c10] at H
  have LMc10 := Aside0.mk c10
  clear c10
  obtain ⟨y503, hy503⟩ : ∃ y_ : List (List Int), y_ = (x6_1 ++ [t494]) := ⟨_, rfl⟩
  replace H : (notaryref47_Frames.l0 k1 l0 y500 y503 t497) = some (r1, r2, r3) := by (rw [hy503]; with_reducible exact H)
  have Ny503 := Aside0.mk hy503
  clear hy503
  have H' := Aside0.mk H
  clear H
  go_wp2_with (first | ((with_reducible refine gate_callee (f := 43) rfl ?_); refine goesL_ (some 21) rfl rfl Try.func43 (by kernel_rfl) rfl #[.slice A0 l0.length c0, .int .i64 x7_1] rfl (by (try simp only [List.map_toArray, List.map_cons, List.map_nil]); (rfl)) ?_; (with_reducible refine (notaryref46_Read.calls k1 _ _ l0 x7_1 t490 t491 t494 t497 t498 _ ?side1 ?side2 A7.out).mono ?_); (case side1 => exact Kd.C_below HR0.out HB.out); (case side2 => exact HC0.out); rintro e w11 ⟨v492, v495, rfl, ho0, ho1, hb⟩; refine ⟨_, rfl, ?_⟩; have n0_ := Aside0.mk (Kd.S_mono (Kd.S_told (Kd.S_told (Kd.S_old (by exact HO_5.out) hb) (Kd.R_base ho0)) (Kd.R_base ho1)) (fun _ h_ => h_.1)); have n1_ := Aside0.mk (Kd.S_mono (Kd.S_told (Kd.S_told (Kd.S_old (by exact HO_6.out) hb) (Kd.R_base ho0)) (Kd.R_base ho1)) (fun _ h_ => h_.1)); have n2_ := Aside0.mk (Kd.R_lower ho0 (below_size HB.out)); have n3_ := Aside0.mk (Kd.R_lower ho1 (below_size HB.out)); have n4_ := Aside0.mk (below_step HB.out hb); clear HO_5; clear HO_6; clear HB; have HO_5 := n0_; have HO_6 := n1_; have HO493 := n2_; have HO496 := n3_; have HB := n4_; clear n0_ n1_ n2_ n3_ n4_; (try clear hb); (try clear ho0); (try clear ho1)) | ((with_reducible refine gate_dst (N := 8) rfl ?_); refine box_event ?hg (N := 8) ?hd (cs := #[.int .i64 0, .slice none 0 0]) (t := 35) ?hr ?_; (case hd => rfl); (case hg => rfl); (case hr => (go_simp; done)); intro gb499 hg w12 hbox hb; have n0_ := Aside0.mk (Kd.S_below (Kd.S_elderB (by exact HO_5.out) gb499 (Nat.le_of_eq hg.symm)) hb); have n1_ := Aside0.mk (Kd.S_below (by exact HO_6.out) hb); have n2_ := Aside0.mk (Kd.R_below (by exact HO493.out) hb); have n3_ := Aside0.mk (Kd.R_below (by exact HO496.out) hb); have n4_ := Aside0.mk (below_step HB.out hb); have n5_ := Aside0.mk (hbox); have n6_ := Aside0.mk ((by rw [hg]; exact (below_size HB.out) : w.heap.size ≤ gb499)); have n7_ := Aside0.mk ((by rw [hg]; exact (below_size HB.out) : w.heap.size ≤ gb499)); clear HO_5; clear HO_6; clear HO493; clear HO496; clear HB; have HO_5 := n0_; have HO_6 := n1_; have HO493 := n2_; have HO496 := n3_; have HB := n4_; have BK499 := n5_; have GW499 := n6_; have GE499 := n7_; clear n0_ n1_ n2_ n3_ n4_ n5_ n6_ n7_; clear hb hbox hg; have hcz13_0 : w12.cell? ⟨gb499, 0, none⟩ = some (.int .i64 0) := (blk_cell BK499.out 0).trans rfl; have hcz13_1 : w12.cell? ⟨gb499, 1, none⟩ = some (.slice none 0 0) := (blk_cell BK499.out 1).trans rfl; have hfz13_0 := blk_frozen BK499.out 0; have hfz13_1 := blk_frozen BK499.out 1; obtain ⟨Ao14, co14, eo14⟩ := Kd.R_slice HO493.out; subst eo14) | ((with_reducible refine gate_store (t := 35) (p := 8) rfl ?_); refine store_event (t := 35) (p := 8) (v := ?vo_w15) (w1 := ((w12.setCell ⟨gb499, 0, none⟩ (.int .i64 t490)).setCell ⟨gb499, 1, none⟩ (.slice Ao14 t491.length co14))) ?hg ?ho ?hn ?hr ?_; (case ho => rfl); (case hg => rfl); (case hn => rfl); (case hr => (go_simp; done)); intro w15 hw; have n0_ : Aside0 (Kd.S k35 35 w15 w.heap.size (fun k_ => some k_ ≠ (.slice Ao14 t491.length co14 : Value).ownBlock ∧ some k_ ≠ (v495 : Value).ownBlock ∧ k_ ≠ gb499) u5 x5_1) := ⟨(by rw [hw]; exact (by exact Kd.S_mono (Kd.S_far (p := ⟨gb499, 1, none⟩) (Kd.S_far (p := ⟨gb499, 0, none⟩) (Kd.S_mono HO_5.out (fun k_ hk => (⟨hk, hk.2⟩ : _ ∧ k_ ≠ gb499))) (fun _ hk => hk.2) (.int .i64 t490)) (fun _ hk => hk.2) (.slice Ao14 t491.length co14)) (fun _ hk => ⟨hk.1.1.1.2, ⟨hk.1.1.2, hk.1.2⟩⟩)))⟩; have n1_ : Aside0 (Kd.S (Kd.slice 5 (Kd.int .u8)) 22 w15 w.heap.size (fun k_ => some k_ ≠ (.slice Ao14 t491.length co14 : Value).ownBlock ∧ some k_ ≠ (v495 : Value).ownBlock) u6 x6_1) := ⟨(by rw [hw]; exact (by exact Kd.S_mono (Kd.S_far (p := ⟨gb499, 1, none⟩) (Kd.S_far (p := ⟨gb499, 0, none⟩) (Kd.S_types HO_6.out BK499.out (by decide)) (fun _ hk => hk.2) (.int .i64 t490)) (fun _ hk => hk.2) (.slice Ao14 t491.length co14)) (fun _ hk => ⟨hk.1.1.2, hk.1.2⟩)))⟩; have n2_ : Aside0 (Kd.R (Kd.int .u8) 5 w15 w.heap.size (fun k_ => some k_ ≠ (v495 : Value).ownBlock) (.slice Ao14 t491.length co14) t491) := ⟨(by rw [hw]; exact (by exact Kd.R_mono (Kd.R_far (p := ⟨gb499, 1, none⟩) (Kd.R_far (p := ⟨gb499, 0, none⟩) (Kd.R_types HO493.out BK499.out (by decide)) (fun _ hk => hk.2) (.int .i64 t490)) (fun _ hk => hk.2) (.slice Ao14 t491.length co14)) (fun _ hk => hk.1)))⟩; have n3_ : Aside0 (Kd.R (Kd.int .u8) 5 w15 w.heap.size (fun k_ => some k_ ≠ (.slice Ao14 t491.length co14 : Value).ownBlock) v495 t494) := ⟨(by rw [hw]; exact (by exact Kd.R_mono (Kd.R_far (p := ⟨gb499, 1, none⟩) (Kd.R_far (p := ⟨gb499, 0, none⟩) (Kd.R_types HO496.out BK499.out (by decide)) (fun _ hk => hk.2) (.int .i64 t490)) (fun _ hk => hk.2) (.slice Ao14 t491.length co14)) (fun _ hk => hk.1)))⟩; have n4_ : Aside0 (w15.heap[gb499]? = some (.cells #[.int .i64 t490, .slice Ao14 t491.length co14] 35 (0, 0))) := ⟨(by rw [hw]; exact (by refine blk_put (cs := #[.int .i64 t490, .slice none 0 0]) ?_ 1 _ rfl; refine blk_put (cs := #[.int .i64 0, .slice none 0 0]) ?_ 0 _ rfl; exact BK499.out))⟩; have n5_ : Aside0 (Below w.heap.size w w15) := ⟨(by rw [hw]; exact (by repeat (with_reducible first | exact HB.out | refine below_set ?_ GE499.out)))⟩; clear hw; clear HO_5; clear HO_6; clear HO493; clear HO496; clear BK499; clear HB; have HO_5 := n0_; have HO_6 := n1_; have HO493 := n2_; have HO496 := n3_; have BK499 := n4_; have HB := n5_; clear n0_ n1_ n2_ n3_ n4_ n5_; have hcz16_0 : w15.cell? ⟨gb499, 0, none⟩ = some (.int .i64 t490) := (blk_cell BK499.out 0).trans rfl; have hcz16_1 : w15.cell? ⟨gb499, 1, none⟩ = some (.slice Ao14 t491.length co14) := (blk_cell BK499.out 1).trans rfl; have hfz16_0 := blk_frozen BK499.out 0; have hfz16_1 := blk_frozen BK499.out 1) | ((with_reducible refine gate_builtin (b := .append) (xs := #[.tmp 31, .tmp 33]) rfl ?_); at_builtin; refine Kd.S_append k35 (w0 := w) w.heap.size rfl (.tmp 31) (.tmp 33) 23 35 (.agg #[(.int .i64 0), (.slice none 0 0)]) 32 rfl Try.underlying23 info35 rfl (by decide) (by omega) u5 x5_1 (⟨t490, t491⟩ : S35) [.int .i64 t490, .slice Ao14 t491.length co14] (fun k_ => some k_ ≠ (v495 : Value).ownBlock ∧ k_ ≠ gb499) (fun k_ => some k_ = (.slice Ao14 t491.length co14 : Value).ownBlock) rfl rfl ?aP (fun k_ hk_ => ((Kd.R_mono (ok' := fun k_ => ((fun k_ => some k_ ≠ (v495 : Value).ownBlock ∧ k_ ≠ gb499)) k_ ∧ some k_ ≠ (u5 : Value).ownBlock) (Kd.R_types (Kd.R_apart' (HO493.out) (Kd.S_typed HO_5.out) (by decide)) BK499.out (by decide)) (fun k_ hk => ⟨⟨hk.1.1, hk.2⟩, hk.1.2⟩))).1 k_ hk_.symm) ?aF ?aO ?aB ?aS ?aL ?_; (case aP => exact k35_mkM _ _ _ (⟨t490, t491⟩ : S35) (Kd.R_mono (Kd.R_tight rfl (Kd.R_mono (ok' := fun k_ => ((fun k_ => some k_ ≠ (v495 : Value).ownBlock ∧ k_ ≠ gb499)) k_ ∧ some k_ ≠ (u5 : Value).ownBlock) (Kd.R_types (Kd.R_apart' (HO493.out) (Kd.S_typed HO_5.out) (by decide)) BK499.out (by decide)) (fun k_ hk => ⟨⟨hk.1.1, hk.2⟩, hk.1.2⟩))) (fun _ h_ => h_))); (case aB => exact HB.out); (case aF => exact (fun k_ hk => ⟨Kd.fresh' (Kd.R_lt (by exact HO496.out)) k_ hk, Kd.freshB (g := gb499) (o := .cells #[.int .i64 t490, .slice Ao14 t491.length co14] 35 (0, 0)) (by exact BK499.out) k_ hk⟩)); (case aO => exact (by exact Kd.S_mono HO_5.out (fun k_ hk => ⟨⟨hk.2.1, hk.2.2⟩, fun e_ => hk.1 e_⟩))); (case aS => exact (below_size HB.out)); (case aL => have := LMc9.out; omega); intro v501 w17 ho hb hg hat; rw [← Ny500.out] at ho; have n0_ := Aside0.mk (Kd.S_over' (by exact HO_6.out) (Kd.S_typed (by exact HO_5.out)) (by decide) hg); have n1_ := Aside0.mk (Kd.R_over' (by exact HO496.out) (Kd.S_typed (by exact HO_5.out)) (by decide) hg); have n2_ := Aside0.mk (blk_grown (g := gb499) (o := .cells #[.int .i64 t490, .slice Ao14 t491.length co14] 35 (0, 0)) (by exact BK499.out) hg (Kd.S_away HO_5.out (fun _ hk => hk.2.2))); have n3_ := Aside0.mk (hb); have n4_ := Aside0.mk (ho); clear HO_6; clear HO496; clear BK499; clear HB; clear HO_5; clear HO493; have HO_6 := n0_; have HO496 := n1_; have BK499 := n2_; have HB := n3_; have HO502 := n4_; clear n0_ n1_ n2_ n3_ n4_; clear ho hb hg hat; obtain ⟨Ao19, co19, eo19⟩ := Kd.R_slice HO496.out; subst eo19) | ((with_reducible refine gate_builtin (b := .append) (xs := #[.tmp 35, .tmp 37]) rfl ?_); at_builtin; refine Kd.S_append (Kd.slice 5 (Kd.int .u8)) (w0 := w) w.heap.size rfl (.tmp 35) (.tmp 37) 96 22 (.slice none 0 0) 24 rfl Try.underlying96 info22 rfl (by decide) (by omega) u6 x6_1 t494 [.slice Ao19 t494.length co19] (fun _ => True) (fun k_ => some k_ = (.slice Ao19 t494.length co19 : Value).ownBlock) rfl rfl ?aP (fun k_ hk_ => ((Kd.R_mono (ok' := fun k_ => (fun _ => True) k_ ∧ some k_ ≠ (u6 : Value).ownBlock) (Kd.R_apart' (HO496.out) (Kd.S_typed HO_6.out) (by decide)) (fun k_ hk => ⟨trivial, hk.2⟩))).1 k_ hk_.symm) ?aF ?aO ?aB ?aS ?aL ?_; (case aP => exact Kd.M_row (Kd.R_mono (Kd.R_tight rfl (Kd.R_mono (ok' := fun k_ => (fun _ => True) k_ ∧ some k_ ≠ (u6 : Value).ownBlock) (Kd.R_apart' (HO496.out) (Kd.S_typed HO_6.out) (by decide)) (fun k_ hk => ⟨trivial, hk.2⟩))) (fun _ h_ => h_))); (case aB => exact HB.out); (case aF => exact (fun _ _ => trivial)); (case aO => exact (by exact Kd.S_mono HO_6.out (fun k_ hk => ⟨trivial, fun e_ => hk.2 e_⟩))); (case aS => exact (below_size HB.out)); (case aL => have := LMc10.out; omega); intro v504 w18 ho hb hg hat; rw [← Ny503.out] at ho; have n0_ := Aside0.mk (blk_grown (g := gb499) (o := .cells #[.int .i64 t490, .slice Ao14 t491.length co14] 35 (0, 0)) (by exact BK499.out) hg (Kd.S_ne HO_6.out BK499.out (by decide))); have n1_ := Aside0.mk (Kd.S_over' (by exact HO502.out) (Kd.S_typed (by exact HO_6.out)) (by decide) hg); have n2_ := Aside0.mk (hb); have n3_ := Aside0.mk (ho); clear BK499; clear HO502; clear HB; clear HO_6; clear HO496; have BK499 := n0_; have HO502 := n1_; have HB := n2_; have HO505 := n3_; clear n0_ n1_ n2_ n3_; clear ho hb hg hat))
  go_roundg k1
  case measure => have := HK1.out; omega
  case rel => exact ⟨(y500), (y503), (t497), (by (rfl)), H', ⟨by have := HK1.out; omega⟩, ⟨by exact Kd.S_mono HO502.out (fun _ hk => trivial)⟩, ⟨by exact HO505.out⟩, ⟨HB.out⟩⟩/-! ### notaryref47_Right: function 62 -/
def notaryref47_Right.l0 : Nat → List Int → List (S35) → List (List Int) → List Int → Int → Option (Int)
  | 0, _, _, _, _, _ => none
  | k + 1, x0, x1, x2, x7, x8 => if x8 < (x1.length : Int) then (if 0 ≤ x8 then ((notaryref47_Next.f k x0 x7 (wrap64 (x8 + 1)) ((rd_T35 x1 x8).f0) ((rd_T35 x1 x8).f1)).bind fun t510 => (if x8 < (x2.length : Int) then ((notaryref01_Same.f k t510 (rd_L3 x2 x8)).bind fun t514 => (if t514 = true then (notaryref47_Right.l0 k x0 x1 x2 (rd_L3 x2 x8) (wrap64 (x8 + 1))) else (some x8))) else (none))) else (none)) else (some (x1.length : Int))
def notaryref47_Right.f (k : Nat) (l0 : List Int) (l1 : List (S35)) (l2 : List (List Int)) : Option (Int) := (notaryref47_First.f).bind fun t506 => (notaryref47_Right.l0 k l0 l1 l2 t506 0)
def notaryref47_Right.T5 : Bool × List (List Nat × List Nat) := (true, [([], []), ([], []), ([], []), ([2], [2]), ([], []), ([], []), ([4, 5], [4, 5]), ([6], [6]), ([0, 1, 3, 7], [0, 1, 3, 7]), ([], []), ([], []), ([9, 10], [9, 10]), ([11], [11]), ([8, 12, 8], [8, 12]), ([13], [13])])
def notaryref47_Right.B5 : List Nat := [0, 0, 0, 4, 0, 0, 48, 112, 255, 0, 0, 1536, 3584, 8191, 16383]
theorem notaryref47_Right.tab5 : rtab .any (opsOf Try.f62 5) = notaryref47_Right.T5 := by kernel_rfl
theorem notaryref47_Right.bits5 : waitsOk notaryref47_Right.T5.2 notaryref47_Right.B5 = true := by kernel_rfl
set_option maxHeartbeats 8000000 in
set_option maxRecDepth 100000 in
theorem notaryref47_Right.calls (k : Nat) (A0 : Option Addr) (c0 : Nat) (l0 : List Int) (A1 : Option Addr) (c1 : Nat) (l1 : List (S35)) (P2_ : Nat → Prop) (A2 : Option Addr) (c2 : Nat) (l2 : List (List Int)) (r : Int) (w : World) (hr0 : Kd.C (Kd.int .u8) w A0 l0.length l0) (hc0 : l0.length ≤ c0) (hr1 : Kd.C k35 w A1 l1.length l1) (hc1 : l1.length ≤ c1) (hs2 : Kd.V (Kd.slice 5 (Kd.int .u8)) 22 w w.heap.size (fun k_ => P2_ k_) (.slice A2 l2.length c2) l2) (h : notaryref47_Right.f k l0 l1 l2 = some r) :
    Calls Try.prog 62 #[.slice A0 l0.length c0, .slice A1 l1.length c1, .slice A2 l2.length c2] w fun e w' => e = .returned (.int .i64 r) ∧ Below w.heap.size w w' := by
  have hu35 := Try.underlying35
  have HR0 := Aside0.mk hr0
  have HC0 := Aside0.mk hc0
  clear hr0 hc0
  have HR1 := Aside0.mk hr1
  have HC1 := Aside0.mk hc1
  clear hr1 hc1
  have HO2 := Aside0.mk (show Kd.V (Kd.slice 5 (Kd.int .u8)) 22 w w.heap.size (fun k_ => (P2_ k_ ∨ w.heap.size ≤ k_)) (.slice A2 l2.length c2) l2 from Kd.V_mono hs2 (fun k_ hk => .inl hk))
  have HB := Aside0.mk (Below.refl w.heap.size w)
  have H : ((notaryref47_First.f).bind fun t506 => (notaryref47_Right.l0 k l0 l1 l2 t506 0)) = some r := h
  clear h
  replace H := Option.bind_eq_some_iff.mp H
  obtain ⟨t506, A40, H⟩ := H
  replace H : (notaryref47_Right.l0 k l0 l1 l2 t506 0) = some r := H
  have A4 := Aside0.mk A40
  clear A40
  have H' := Aside0.mk H
  clear H
  go_enter Try.func62, Try.ntmps62
  go_wp2_with ((((with_reducible refine gate_callee (f := 26) rfl ?_); refine goesL_ (some 9) rfl rfl Try.func26 (by kernel_rfl) rfl #[] rfl (by (try simp only [List.map_toArray, List.map_cons, List.map_nil]); (done)) ?_; (with_reducible refine (notaryref47_First.calls  t506 _ A4.out).mono ?_); rintro e w5 ⟨v507, rfl, ho0, hb⟩; refine ⟨_, rfl, ?_⟩; have n0_ := Aside0.mk (Kd.V_elder' (by exact HO2.out) (Kd.R_base ho0) hb); have n1_ := Aside0.mk (Kd.R_lower (Kd.R_newM (M := fun k_ => (w.heap.size ≤ k_)) ho0 (below_size HB.out) (fun k_ h_ => h_)) (below_size HB.out)); have n2_ := Aside0.mk (below_step HB.out hb); clear HO2; clear HB; have HO2 := n0_; have HO508 := n1_; have HB := n2_; clear n0_ n1_ n2_; (try clear hb); (try clear ho0))))
  go_loopg [7, 8] k (fun kq v7 v8 w' => ∃ (x7_1 : List Int) (x8_1 : Int), v8 = .int .i64 x8_1 ∧ Aside0 (notaryref47_Right.l0 kq l0 l1 l2 x7_1 x8_1 = some r) ∧ Aside0 (kq ≤ k) ∧ Aside0 (Kd.V (Kd.slice 5 (Kd.int .u8)) 22 w' w.heap.size (fun k_ => (P2_ k_ ∨ w.heap.size ≤ k_)) (.slice A2 l2.length c2) l2) ∧ Aside0 (Kd.V (Kd.int .u8) 5 w' w.heap.size (fun k_ => (P2_ k_ ∨ w.heap.size ≤ k_)) v7 x7_1) ∧ Aside0 (Below w.heap.size w w'))
  case atStart => exact ⟨(t506), (0), (by (rfl)), H', ⟨Nat.le_refl _⟩, ⟨by exact Kd.V_mono HO2.out (fun _ hk => hk.1)⟩, ⟨Kd.V_mono (Kd.R_V (by exact Kd.R_mono HO508.out (fun _ hk => hk.1))) (fun k_ hk => by (exact (.inr (hk))))⟩, ⟨HB.out⟩⟩
  clear H'
  obtain ⟨x7_1, x8_1, rfl, HA, HK1, HO_2, HO_7, HB⟩ := hrel
  rcases gk with _ | k1
  · exact absurd HA.out (by simp [notaryref47_Right.l0])
  have H := HA.out
  clear HA
  simp only [notaryref47_Right.l0] at H
  by_cases c6 : x8_1 < (l1.length : Int)
  rotate_left
  · rw [if_neg c6] at H
    have c6b0 : decide (x8_1 < (l1.length : Int)) = false := decide_eq_false c6
    clear c6
    obtain rfl := Option.some.inj H
    go_wp2
    go_ret
    exact ⟨by (rfl), HB.out⟩


  rw [if_pos c6] at H
  have c6b0 : decide (x8_1 < (l1.length : Int)) = true := decide_eq_true c6
  clear c6
  by_cases c7 : 0 ≤ x8_1
  rotate_left
  · rw [if_neg c7] at H
    exact absurd H (by simp)
  rw [if_pos c7] at H
  have c7b0 : decide (0 ≤ x8_1) = true := decide_eq_true c7
  clear c7
  replace H := Option.bind_eq_some_iff.mp H
  obtain ⟨t510, A80, H⟩ := H
  replace H : (if x8_1 < (l2.length : Int) then ((notaryref01_Same.f k1 t510 (rd_L3 l2 x8_1)).bind fun t514 => (if t514 = true then (notaryref47_Right.l0 k1 l0 l1 l2 (rd_L3 l2 x8_1) (wrap64 (x8_1 + 1))) else (some x8_1))) else (none)) = some r := H
  have A8 := Aside0.mk A80
  clear A80
  by_cases c9 : x8_1 < (l2.length : Int)
  rotate_left
  · rw [if_neg c9] at H
    exact absurd H (by simp)
  rw [if_pos c9] at H
  have c9b0 : decide (x8_1 < (l2.length : Int)) = true := decide_eq_true c9
  clear c9
  replace H := Option.bind_eq_some_iff.mp H
  obtain ⟨t514, A100, H⟩ := H
  replace H : (if t514 = true then (notaryref47_Right.l0 k1 l0 l1 l2 (rd_L3 l2 x8_1) (wrap64 (x8_1 + 1))) else (some x8_1)) = some r := H
  have A10 := Aside0.mk A100
  clear A100
  by_cases c11 : t514 = true
  rotate_left
  · replace c11 := Bool.eq_false_iff.mpr c11
    subst c11
    have H1 : (some x8_1) = some r := by rw [if_neg (show ¬ (false = true) by decide)] at H; exact H
    clear H
    have H := H1
    clear H1
    obtain rfl := Option.some.inj H
    try go_wp2
    have n0_ := Aside0.mk (Kd.V_drew HO_2.out)
    have n1_ := Aside0.mk (Kd.V_drew HO_7.out)
    have n2_ := Aside0.mk (below_drew1 HB.out)
    clear HO_2
    clear HO_7
    clear HB
    have HO_2 := n0_
    have HO_7 := n1_
    have HB := n2_
    clear n0_ n1_ n2_
    have p509 : 0 ≤ (x8_1 : Int) := of_decide_eq_true (by (with_reducible assumption))
    have q509 : x8_1 < (l1.length : Int) := of_decide_eq_true (by (with_reducible assumption))
    obtain ⟨ad509, A509_1, c509_1, e509, hx509_0, hx509_1, hl509_1, hi509_1⟩ := at_T35 HR1.out x8_1 p509 q509
    have hw509_1 := hx509_1
    have hw509_0 := hx509_0
    cases e509
    replace hx509_0 := pw_cell_below HB.out hx509_0
    replace hx509_1 := pw_cell_below HB.out hx509_1
    have HR509_1 := Aside0.mk hi509_1
    have HC509_1 := Aside0.mk hl509_1
    clear hi509_1 hl509_1
    replace p509 := eq_true p509
    replace q509 := eq_true q509
    have p513 : 0 ≤ (x8_1 : Int) := of_decide_eq_true (by (with_reducible assumption))
    have q513 : x8_1 < (l2.length : Int) := of_decide_eq_true (by (with_reducible assumption))
    obtain ⟨ad513, A513_0, c513_0, e513, hx513_0, hl513_0, hi513_0⟩ := at_L3 (Kd.V_reads' HO_2.out).2.2 x8_1 p513 q513
    cases e513
    obtain ⟨ce513, hce513, hMe513, hcc513⟩ := Kd.V_get HO_2.out [] x8_1 p513 (by (exact q513))
    obtain ⟨ua513_0, uc513_0, rfl, ul513_0, ge513_0⟩ := Kd.FK_slice_open hMe513
    have hv513_0 := hcc513 0 _ rfl
    rw [Nat.add_zero, show ((Kd.slice 5 (Kd.int .u8))).sz = 1 from rfl, Nat.mul_one] at hv513_0
    replace hv513_0 := Option.some.inj (hv513_0.symm.trans hx513_0)
    injection hv513_0 with hva_ hvn_ hvc_
    rw [hva_] at ge513_0
    rw [hvc_] at ul513_0
    have HL513_0 := Aside0.mk (show Kd.V (Kd.int .u8) 5 _ w.heap.size _ _ (rd_L3 l2 x8_1) from Kd.V_mk ul513_0 ge513_0)
    clear hva_ hvn_ hvc_ ge513_0 ul513_0
    clear hcc513 hce513
    have HR513_0 := Aside0.mk hi513_0
    have HC513_0 := Aside0.mk hl513_0
    clear hi513_0 hl513_0
    replace p513 := eq_true p513
    replace q513 := eq_true q513
    obtain ⟨Ao17, co17, eo17⟩ := Kd.V_slice HO_7.out
    (subst eo17)
    refine start_ (n := 15) (S := fun w' => w'.cell? (ad509.add ((x8_1).toNat * 2)) = some (.int .i64 ((rd_T35 l1 x8_1).f0)) ∧ w'.cell? ⟨(ad509.add ((x8_1).toNat * 2)).block, (ad509.add ((x8_1).toNat * 2)).off + 1, none⟩ = some (.slice A509_1 ((rd_T35 l1 x8_1).f1).length c509_1) ∧ w'.cell? (ad513.add (x8_1).toNat) = some (.slice A513_0 (rd_L3 l2 x8_1).length c513_0)) (ds := []) (bl 15 0) (by kernel_rfl) rfl rfl ⟨(pw_cell_below HB.out hw509_0), (pw_cell_below HB.out hw509_1), hx513_0⟩ (fun hHeld => ?_); refine with_tabW notaryref47_Right.tab5 notaryref47_Right.bits5 (fun HT_ HW_ => ?_)
    generalize wr.drew = w16 at HO_2 HO_7 HB HL513_0 HR509_1 HR513_0 hx509_0 hx509_1 hx513_0 hHeld ⊢
    refine pure_ (i := 0) (N := some 16) (v := ?_) (a' := ?_) (bl 15 1) rfl rfl (any_of HT_.out (by kernel_rfl)) (fun _ _ _ h => h) (Or.inl ⟨by rfl, ?_⟩) ?_ ?_
    rotate_left
    · intro w'; go_simp; with_reducible rfl
    rotate_left
    · simp only [Act.put, sa_, sz_, ss_, i64_w, i32_w]; rfl
    refine pure_ (i := 1) (N := some 17) (v := ?_) (a' := ?_) (bl 15 3) rfl rfl (any_of HT_.out (by kernel_rfl)) (fun _ _ _ h => h) (Or.inl ⟨by rfl, ?_⟩) ?_ ?_
    rotate_left
    · intro w'; go_simp; with_reducible rfl
    rotate_left
    · simp only [Act.put, sa_, sz_, ss_, i64_w, i32_w]; rfl
    refine pure_ (i := 2) (N := some 18) (v := ?_) (a' := ?_) (bl 15 7) rfl rfl (any_of HT_.out (by kernel_rfl)) (fun _ _ _ h => h) (Or.inl ⟨by rfl, ?_⟩) ?_ ?_
    rotate_left
    · intro w'; go_simp; with_reducible rfl
    rotate_left
    · simp only [Act.put, sa_, sz_, ss_, i64_w, i32_w]; rfl
    refine pure_ (i := 3) (N := some 19) (v := ?_) (a' := ?_) (bl 15 15) rfl rfl (any_of HT_.out (by kernel_rfl)) (fun _ _ _ h => h) (Or.inl ⟨by rfl, ?_⟩) ?_ ?_
    rotate_left
    · intro w'; go_simp; with_reducible rfl
    rotate_left
    · simp only [Act.put, sa_, sz_, ss_, i64_w, i32_w]; rfl
    refine pure_ (i := 4) (N := some 20) (v := ?_) (a' := ?_) (bl 15 31) rfl rfl (any_of HT_.out (by kernel_rfl)) (fun _ _ _ h => h) (Or.inl ⟨by rfl, ?_⟩) ?_ ?_
    rotate_left
    · intro w'; go_simp; with_reducible rfl
    rotate_left
    · simp only [Act.put, sa_, sz_, ss_, i64_w, i32_w]; rfl
    refine pure_ (i := 5) (N := some 21) (v := ?_) (a' := ?_) (bl 15 63) rfl rfl (any_of HT_.out (by kernel_rfl)) (fun _ _ _ h => h) (Or.inl ⟨by rfl, ?_⟩) ?_ ?_
    rotate_left
    · intro w'; go_simp; with_reducible rfl
    rotate_left
    · simp only [Act.put, sa_, sz_, ss_, i64_w, i32_w]; rfl
    refine pure_ (i := 6) (N := some 22) (v := ?_) (a' := ?_) (bl 15 127) rfl rfl (any_of HT_.out (by kernel_rfl)) (fun _ _ _ h => h) (Or.inl ⟨by rfl, ?_⟩) ?_ ?_
    rotate_left
    · intro w'; go_simp; with_reducible rfl
    rotate_left
    · simp only [Act.put, sa_, sz_, ss_, i64_w, i32_w]; rfl
    refine pure_ (i := 9) (N := some 25) (v := ?_) (a' := ?_) (bl 15 639) rfl rfl (any_of HT_.out (by kernel_rfl)) (fun _ _ _ h => h) (Or.inl ⟨by rfl, ?_⟩) ?_ ?_
    rotate_left
    · intro w'; go_simp; with_reducible rfl
    rotate_left
    · simp only [Act.put, sa_, sz_, ss_, i64_w, i32_w]; rfl
    refine pure_ (i := 10) (N := some 26) (v := ?_) (a' := ?_) (bl 15 1663) rfl rfl (any_of HT_.out (by kernel_rfl)) (fun _ _ _ h => h) (Or.inl ⟨by rfl, ?_⟩) ?_ ?_
    rotate_left
    · intro w'; go_simp; with_reducible rfl
    rotate_left
    · simp only [Act.put, sa_, sz_, ss_, i64_w, i32_w]; rfl
    refine pure_ (i := 11) (N := some 27) (v := ?_) (a' := ?_) (bl 15 3711) rfl rfl (any_of HT_.out (by kernel_rfl)) (fun _ _ _ h => h) (Or.inl ⟨by rfl, ?_⟩) ?_ ?_
    rotate_left
    · intro w'; go_simp; with_reducible rfl
    rotate_left
    · simp only [Act.put, sa_, sz_, ss_, i64_w, i32_w]; rfl
    refine take_ (i := 7) (N := some 23) (v := ?_) (a' := ?_) (bl 15 3839) rfl rfl (take_ofW HT_.out HW_.out (by kernel_rfl)) (fun _ _ _ h => h) (Or.inl ⟨by rfl, ?_⟩) hHeld ?_ ?_
    rotate_left
    · rintro w' ⟨s0, s1, s2⟩
      go_simp
      with_reducible rfl
    rotate_left
    · simp only [Act.put, sa_, sz_, ss_, i64_w, i32_w]; rfl
    refine take_ (i := 12) (N := some 28) (v := ?_) (a' := ?_) (bl 15 7935) rfl rfl (take_ofW HT_.out HW_.out (by kernel_rfl)) (fun _ _ _ h => h) (Or.inl ⟨by rfl, ?_⟩) hHeld ?_ ?_
    rotate_left
    · rintro w' ⟨s0, s1, s2⟩
      go_simp
      with_reducible rfl
    rotate_left
    · simp only [Act.put, sa_, sz_, ss_, i64_w, i32_w]; rfl
    refine one_ (i := 8) (N := some 24) (bl 15 8191) rfl rfl (one_of HT_.out (by kernel_rfl)) (by decide) (fun K hK => ?_)
    refine goes_ Try.func44 (by kernel_rfl) rfl #[.slice A0 l0.length c0, .slice Ao17 x7_1.length co17, .int .i64 (wrap64 (x8_1 + 1)), .agg #[.int .i64 ((rd_T35 l1 x8_1).f0), .slice A509_1 ((rd_T35 l1 x8_1).f1).length c509_1]] (by rfl) rfl rfl (by (try simp only [List.map_toArray, List.map_cons, List.map_nil]); (rfl)) ?_
    with_reducible refine (notaryref47_Next.calls k1 _ _ l0 _ _ x7_1 (wrap64 (x8_1 + 1)) ((rd_T35 l1 x8_1).f0) _ _ ((rd_T35 l1 x8_1).f1) t510 _ ?side1 ?side2 ?side3 ?side4 ?side5 ?side6 A8.out).mono ?_
    (case side1 => exact Kd.C_below HR0.out HB.out)
    (case side2 => exact HC0.out)
    (case side3 => repeat ((exact (Kd.V_reads' HO_7.out).2.2)))
    (case side4 => exact (Kd.V_reads' HO_7.out).2.1)
    (case side5 => exact Kd.C_below HR509_1.out HB.out)
    (case side6 => exact HC509_1.out)
    rintro e w18 ⟨v511, rfl, ho0, hb⟩
    have HS2_ := (hb.cell (World.block_lt_of_cell? _ _ (hHeld.2.2))).trans (hHeld.2.2)
    refine ⟨_, rfl, ?_⟩
    have n0_ := Aside0.mk (Kd.V_elder' (by exact HO_2.out) (Kd.R_base ho0) hb)
    have n1_ := Aside0.mk (Kd.V_elder' (by exact HO_7.out) (Kd.R_base ho0) hb)
    have n2_ := Aside0.mk (Kd.V_elder' (by exact HL513_0.out) (Kd.R_base ho0) hb)
    have n3_ := Aside0.mk (Kd.R_lower (Kd.R_newM (M := fun k_ => (w.heap.size ≤ k_)) ho0 (below_size HB.out) (fun k_ h_ => h_)) (below_size HB.out))
    have n4_ := Aside0.mk (Kd.C_below (by repeat (with_reducible exact HR513_0.out)) hb)
    have n5_ := Aside0.mk (below_step HB.out hb)
    clear HO_2
    clear HO_7
    clear HL513_0
    clear HR513_0
    clear HB
    have HO_2 := n0_
    have HO_7 := n1_
    have HL513_0 := n2_
    have HO512 := n3_
    have HR513_0 := n4_
    have HB := n5_
    clear n0_ n1_ n2_ n3_ n4_ n5_
    (try clear hb)
    (skip)
    (skip)
    (skip)
    (try clear ho0)
    obtain ⟨Ao19, co19, eo19⟩ := Kd.R_slice HO512.out
    (subst eo19)
    refine hK.out _ _ ⟨(pw_cell_below HB.out hw509_0), (pw_cell_below HB.out hw509_1), HS2_⟩ (fun hHeld => ?_)
    clear hK K
    refine norm_ (a' := ?_) ?_ ?_
    rotate_left
    · show Act.put _ (some 24) _ = _
      simp only [Act.put, sa_, sz_, ss_, i64_w, i32_w]
      rfl
    refine one_ (i := 13) (N := some 29) (bl 15 16383) rfl rfl (one_of HT_.out (by kernel_rfl)) (by decide) (fun K hK => ?_)
    refine goes_ Try.func16 (by kernel_rfl) rfl #[.slice Ao19 t510.length co19, .slice A513_0 (rd_L3 l2 x8_1).length c513_0] (by rfl) rfl rfl (by (try simp only [List.map_toArray, List.map_cons, List.map_nil]); (rfl)) ?_
    with_reducible refine (notaryref01_Same.calls k1 _ _ t510 _ _ (rd_L3 l2 x8_1) false _ ?side1 ?side2 ?side3 ?side4 A10.out).mono ?_
    (case side1 => repeat ((exact (Kd.R_reads' HO512.out).2.2)))
    (case side2 => exact (Kd.R_reads' HO512.out).2.1)
    (case side3 => repeat ((exact (by repeat (with_reducible exact HR513_0.out)))))
    (case side4 => exact HC513_0.out)
    rintro e w' ⟨rfl, ⟨nd, rfl⟩⟩
    refine ⟨_, rfl, ?_⟩
    refine hK.out _ _ ⟨(pw_cell_below HB.out hw509_0), (pw_cell_below HB.out hw509_1), hHeld.2.2⟩ (fun hHeld => ?_)
    clear hK K
    refine norm_ (a' := ?_) ?_ ?_
    rotate_left
    · show Act.put _ (some 29) _ = _
      simp only [Act.put, sa_, sz_, ss_, i64_w, i32_w]
      rfl
    refine pure_ (i := 14) (N := some 30) (v := ?_) (a' := ?_) (bl 15 32767) rfl rfl (any_of HT_.out (by kernel_rfl)) (fun _ _ _ h => h) (Or.inl ⟨by rfl, ?_⟩) ?_ ?_
    rotate_left
    · intro w'; go_simp; with_reducible rfl
    rotate_left
    · simp only [Act.put, sa_, sz_, ss_, i64_w, i32_w]; rfl
    refine done_ (done_of HT_.out (by kernel_rfl)) ?_
    try go_wp2
    go_ret
    exact ⟨by (rfl), by repeat (with_reducible first | exact HB.out | apply pw_below_drewN)⟩
  subst c11
  have H1 : (notaryref47_Right.l0 k1 l0 l1 l2 (rd_L3 l2 x8_1) (wrap64 (x8_1 + 1))) = some r := by rw [if_pos rfl] at H; exact H
  clear H
  have H := H1
  clear H1
  have H' := Aside0.mk H
  clear H
  try go_wp2
  have n0_ := Aside0.mk (Kd.V_drew HO_2.out)
  have n1_ := Aside0.mk (Kd.V_drew HO_7.out)
  have n2_ := Aside0.mk (below_drew1 HB.out)
  clear HO_2
  clear HO_7
  clear HB
  have HO_2 := n0_
  have HO_7 := n1_
  have HB := n2_
  clear n0_ n1_ n2_
  have p509 : 0 ≤ (x8_1 : Int) := of_decide_eq_true (by (with_reducible assumption))
  have q509 : x8_1 < (l1.length : Int) := of_decide_eq_true (by (with_reducible assumption))
  obtain ⟨ad509, A509_1, c509_1, e509, hx509_0, hx509_1, hl509_1, hi509_1⟩ := at_T35 HR1.out x8_1 p509 q509
  have hw509_1 := hx509_1
  have hw509_0 := hx509_0
  cases e509
  replace hx509_0 := pw_cell_below HB.out hx509_0
  replace hx509_1 := pw_cell_below HB.out hx509_1
  have HR509_1 := Aside0.mk hi509_1
  have HC509_1 := Aside0.mk hl509_1
  clear hi509_1 hl509_1
  replace p509 := eq_true p509
  replace q509 := eq_true q509
  have p513 : 0 ≤ (x8_1 : Int) := of_decide_eq_true (by (with_reducible assumption))
  have q513 : x8_1 < (l2.length : Int) := of_decide_eq_true (by (with_reducible assumption))
  obtain ⟨ad513, A513_0, c513_0, e513, hx513_0, hl513_0, hi513_0⟩ := at_L3 (Kd.V_reads' HO_2.out).2.2 x8_1 p513 q513
  cases e513
  obtain ⟨ce513, hce513, hMe513, hcc513⟩ := Kd.V_get HO_2.out [] x8_1 p513 (by (exact q513))
  obtain ⟨ua513_0, uc513_0, rfl, ul513_0, ge513_0⟩ := Kd.FK_slice_open hMe513
  have hv513_0 := hcc513 0 _ rfl
  rw [Nat.add_zero, show ((Kd.slice 5 (Kd.int .u8))).sz = 1 from rfl, Nat.mul_one] at hv513_0
  replace hv513_0 := Option.some.inj (hv513_0.symm.trans hx513_0)
  injection hv513_0 with hva_ hvn_ hvc_
  rw [hva_] at ge513_0
  rw [hvc_] at ul513_0
  have HL513_0 := Aside0.mk (show Kd.V (Kd.int .u8) 5 _ w.heap.size _ _ (rd_L3 l2 x8_1) from Kd.V_mk ul513_0 ge513_0)
  clear hva_ hvn_ hvc_ ge513_0 ul513_0
  clear hcc513 hce513
  have HR513_0 := Aside0.mk hi513_0
  have HC513_0 := Aside0.mk hl513_0
  clear hi513_0 hl513_0
  replace p513 := eq_true p513
  replace q513 := eq_true q513
  obtain ⟨Ao13, co13, eo13⟩ := Kd.V_slice HO_7.out
  (subst eo13)
  refine start_ (n := 15) (S := fun w' => w'.cell? (ad509.add ((x8_1).toNat * 2)) = some (.int .i64 ((rd_T35 l1 x8_1).f0)) ∧ w'.cell? ⟨(ad509.add ((x8_1).toNat * 2)).block, (ad509.add ((x8_1).toNat * 2)).off + 1, none⟩ = some (.slice A509_1 ((rd_T35 l1 x8_1).f1).length c509_1) ∧ w'.cell? (ad513.add (x8_1).toNat) = some (.slice A513_0 (rd_L3 l2 x8_1).length c513_0)) (ds := []) (bl 15 0) (by kernel_rfl) rfl rfl ⟨(pw_cell_below HB.out hw509_0), (pw_cell_below HB.out hw509_1), hx513_0⟩ (fun hHeld => ?_); refine with_tabW notaryref47_Right.tab5 notaryref47_Right.bits5 (fun HT_ HW_ => ?_)
  generalize wr.drew = w12 at HO_2 HO_7 HB HL513_0 HR509_1 HR513_0 hx509_0 hx509_1 hx513_0 hHeld ⊢
  refine pure_ (i := 0) (N := some 16) (v := ?_) (a' := ?_) (bl 15 1) rfl rfl (any_of HT_.out (by kernel_rfl)) (fun _ _ _ h => h) (Or.inl ⟨by rfl, ?_⟩) ?_ ?_
  rotate_left
  · intro w'; go_simp; with_reducible rfl
  rotate_left
  · simp only [Act.put, sa_, sz_, ss_, i64_w, i32_w]; rfl
  refine pure_ (i := 1) (N := some 17) (v := ?_) (a' := ?_) (bl 15 3) rfl rfl (any_of HT_.out (by kernel_rfl)) (fun _ _ _ h => h) (Or.inl ⟨by rfl, ?_⟩) ?_ ?_
  rotate_left
  · intro w'; go_simp; with_reducible rfl
  rotate_left
  · simp only [Act.put, sa_, sz_, ss_, i64_w, i32_w]; rfl
  refine pure_ (i := 2) (N := some 18) (v := ?_) (a' := ?_) (bl 15 7) rfl rfl (any_of HT_.out (by kernel_rfl)) (fun _ _ _ h => h) (Or.inl ⟨by rfl, ?_⟩) ?_ ?_
  rotate_left
  · intro w'; go_simp; with_reducible rfl
  rotate_left
  · simp only [Act.put, sa_, sz_, ss_, i64_w, i32_w]; rfl
  refine pure_ (i := 3) (N := some 19) (v := ?_) (a' := ?_) (bl 15 15) rfl rfl (any_of HT_.out (by kernel_rfl)) (fun _ _ _ h => h) (Or.inl ⟨by rfl, ?_⟩) ?_ ?_
  rotate_left
  · intro w'; go_simp; with_reducible rfl
  rotate_left
  · simp only [Act.put, sa_, sz_, ss_, i64_w, i32_w]; rfl
  refine pure_ (i := 4) (N := some 20) (v := ?_) (a' := ?_) (bl 15 31) rfl rfl (any_of HT_.out (by kernel_rfl)) (fun _ _ _ h => h) (Or.inl ⟨by rfl, ?_⟩) ?_ ?_
  rotate_left
  · intro w'; go_simp; with_reducible rfl
  rotate_left
  · simp only [Act.put, sa_, sz_, ss_, i64_w, i32_w]; rfl
  refine pure_ (i := 5) (N := some 21) (v := ?_) (a' := ?_) (bl 15 63) rfl rfl (any_of HT_.out (by kernel_rfl)) (fun _ _ _ h => h) (Or.inl ⟨by rfl, ?_⟩) ?_ ?_
  rotate_left
  · intro w'; go_simp; with_reducible rfl
  rotate_left
  · simp only [Act.put, sa_, sz_, ss_, i64_w, i32_w]; rfl
  refine pure_ (i := 6) (N := some 22) (v := ?_) (a' := ?_) (bl 15 127) rfl rfl (any_of HT_.out (by kernel_rfl)) (fun _ _ _ h => h) (Or.inl ⟨by rfl, ?_⟩) ?_ ?_
  rotate_left
  · intro w'; go_simp; with_reducible rfl
  rotate_left
  · simp only [Act.put, sa_, sz_, ss_, i64_w, i32_w]; rfl
  refine pure_ (i := 9) (N := some 25) (v := ?_) (a' := ?_) (bl 15 639) rfl rfl (any_of HT_.out (by kernel_rfl)) (fun _ _ _ h => h) (Or.inl ⟨by rfl, ?_⟩) ?_ ?_
  rotate_left
  · intro w'; go_simp; with_reducible rfl
  rotate_left
  · simp only [Act.put, sa_, sz_, ss_, i64_w, i32_w]; rfl
  refine pure_ (i := 10) (N := some 26) (v := ?_) (a' := ?_) (bl 15 1663) rfl rfl (any_of HT_.out (by kernel_rfl)) (fun _ _ _ h => h) (Or.inl ⟨by rfl, ?_⟩) ?_ ?_
  rotate_left
  · intro w'; go_simp; with_reducible rfl
  rotate_left
  · simp only [Act.put, sa_, sz_, ss_, i64_w, i32_w]; rfl
  refine pure_ (i := 11) (N := some 27) (v := ?_) (a' := ?_) (bl 15 3711) rfl rfl (any_of HT_.out (by kernel_rfl)) (fun _ _ _ h => h) (Or.inl ⟨by rfl, ?_⟩) ?_ ?_
  rotate_left
  · intro w'; go_simp; with_reducible rfl
  rotate_left
  · simp only [Act.put, sa_, sz_, ss_, i64_w, i32_w]; rfl
  refine take_ (i := 7) (N := some 23) (v := ?_) (a' := ?_) (bl 15 3839) rfl rfl (take_ofW HT_.out HW_.out (by kernel_rfl)) (fun _ _ _ h => h) (Or.inl ⟨by rfl, ?_⟩) hHeld ?_ ?_
  rotate_left
  · rintro w' ⟨s0, s1, s2⟩
    go_simp
    with_reducible rfl
  rotate_left
  · simp only [Act.put, sa_, sz_, ss_, i64_w, i32_w]; rfl
  refine take_ (i := 12) (N := some 28) (v := ?_) (a' := ?_) (bl 15 7935) rfl rfl (take_ofW HT_.out HW_.out (by kernel_rfl)) (fun _ _ _ h => h) (Or.inl ⟨by rfl, ?_⟩) hHeld ?_ ?_
  rotate_left
  · rintro w' ⟨s0, s1, s2⟩
    go_simp
    with_reducible rfl
  rotate_left
  · simp only [Act.put, sa_, sz_, ss_, i64_w, i32_w]; rfl
  refine one_ (i := 8) (N := some 24) (bl 15 8191) rfl rfl (one_of HT_.out (by kernel_rfl)) (by decide) (fun K hK => ?_)
  refine goes_ Try.func44 (by kernel_rfl) rfl #[.slice A0 l0.length c0, .slice Ao13 x7_1.length co13, .int .i64 (wrap64 (x8_1 + 1)), .agg #[.int .i64 ((rd_T35 l1 x8_1).f0), .slice A509_1 ((rd_T35 l1 x8_1).f1).length c509_1]] (by rfl) rfl rfl (by (try simp only [List.map_toArray, List.map_cons, List.map_nil]); (rfl)) ?_
  with_reducible refine (notaryref47_Next.calls k1 _ _ l0 _ _ x7_1 (wrap64 (x8_1 + 1)) ((rd_T35 l1 x8_1).f0) _ _ ((rd_T35 l1 x8_1).f1) t510 _ ?side1 ?side2 ?side3 ?side4 ?side5 ?side6 A8.out).mono ?_
  (case side1 => exact Kd.C_below HR0.out HB.out)
  (case side2 => exact HC0.out)
  (case side3 => repeat ((exact (Kd.V_reads' HO_7.out).2.2)))
  (case side4 => exact (Kd.V_reads' HO_7.out).2.1)
  (case side5 => exact Kd.C_below HR509_1.out HB.out)
  (case side6 => exact HC509_1.out)
  rintro e w14 ⟨v511, rfl, ho0, hb⟩
  have HS2_ := (hb.cell (World.block_lt_of_cell? _ _ (hHeld.2.2))).trans (hHeld.2.2)
  refine ⟨_, rfl, ?_⟩
  have n0_ := Aside0.mk (Kd.V_elder' (by exact HO_2.out) (Kd.R_base ho0) hb)
  have n1_ := Aside0.mk (Kd.V_elder' (by exact HO_7.out) (Kd.R_base ho0) hb)
  have n2_ := Aside0.mk (Kd.V_elder' (by exact HL513_0.out) (Kd.R_base ho0) hb)
  have n3_ := Aside0.mk (Kd.R_lower (Kd.R_newM (M := fun k_ => (w.heap.size ≤ k_)) ho0 (below_size HB.out) (fun k_ h_ => h_)) (below_size HB.out))
  have n4_ := Aside0.mk (Kd.C_below (by repeat (with_reducible exact HR513_0.out)) hb)
  have n5_ := Aside0.mk (below_step HB.out hb)
  clear HO_2
  clear HO_7
  clear HL513_0
  clear HR513_0
  clear HB
  have HO_2 := n0_
  have HO_7 := n1_
  have HL513_0 := n2_
  have HO512 := n3_
  have HR513_0 := n4_
  have HB := n5_
  clear n0_ n1_ n2_ n3_ n4_ n5_
  (try clear hb)
  (skip)
  (skip)
  (skip)
  (try clear ho0)
  obtain ⟨Ao15, co15, eo15⟩ := Kd.R_slice HO512.out
  (subst eo15)
  refine hK.out _ _ ⟨(pw_cell_below HB.out hw509_0), (pw_cell_below HB.out hw509_1), HS2_⟩ (fun hHeld => ?_)
  clear hK K
  refine norm_ (a' := ?_) ?_ ?_
  rotate_left
  · show Act.put _ (some 24) _ = _
    simp only [Act.put, sa_, sz_, ss_, i64_w, i32_w]
    rfl
  refine one_ (i := 13) (N := some 29) (bl 15 16383) rfl rfl (one_of HT_.out (by kernel_rfl)) (by decide) (fun K hK => ?_)
  refine goes_ Try.func16 (by kernel_rfl) rfl #[.slice Ao15 t510.length co15, .slice A513_0 (rd_L3 l2 x8_1).length c513_0] (by rfl) rfl rfl (by (try simp only [List.map_toArray, List.map_cons, List.map_nil]); (rfl)) ?_
  with_reducible refine (notaryref01_Same.calls k1 _ _ t510 _ _ (rd_L3 l2 x8_1) true _ ?side1 ?side2 ?side3 ?side4 A10.out).mono ?_
  (case side1 => repeat ((exact (Kd.R_reads' HO512.out).2.2)))
  (case side2 => exact (Kd.R_reads' HO512.out).2.1)
  (case side3 => repeat ((exact (by repeat (with_reducible exact HR513_0.out)))))
  (case side4 => exact HC513_0.out)
  rintro e w' ⟨rfl, ⟨nd, rfl⟩⟩
  refine ⟨_, rfl, ?_⟩
  refine hK.out _ _ ⟨(pw_cell_below HB.out hw509_0), (pw_cell_below HB.out hw509_1), hHeld.2.2⟩ (fun hHeld => ?_)
  clear hK K
  refine norm_ (a' := ?_) ?_ ?_
  rotate_left
  · show Act.put _ (some 29) _ = _
    simp only [Act.put, sa_, sz_, ss_, i64_w, i32_w]
    rfl
  refine pure_ (i := 14) (N := some 30) (v := ?_) (a' := ?_) (bl 15 32767) rfl rfl (any_of HT_.out (by kernel_rfl)) (fun _ _ _ h => h) (Or.inl ⟨by rfl, ?_⟩) ?_ ?_
  rotate_left
  · intro w'; go_simp; with_reducible rfl
  rotate_left
  · simp only [Act.put, sa_, sz_, ss_, i64_w, i32_w]; rfl
  refine done_ (done_of HT_.out (by kernel_rfl)) ?_
  have p515 : 0 ≤ (x8_1 : Int) := of_decide_eq_true (by (with_reducible assumption))
  have q515 : x8_1 < (l2.length : Int) := of_decide_eq_true (by (with_reducible assumption))
  obtain ⟨ad515, A515_0, c515_0, e515, hx515_0, hl515_0, hi515_0⟩ := at_L3 (Kd.V_reads' HO_2.out).2.2 x8_1 p515 q515
  obtain rfl : ad513 = ad515 := (by injection e515)
  obtain ⟨ce515, hce515, hMe515, hcc515⟩ := Kd.V_get HO_2.out [] x8_1 p515 (by (exact q515))
  obtain ⟨ua515_0, uc515_0, rfl, ul515_0, ge515_0⟩ := Kd.FK_slice_open hMe515
  have hv515_0 := hcc515 0 _ rfl
  rw [Nat.add_zero, show ((Kd.slice 5 (Kd.int .u8))).sz = 1 from rfl, Nat.mul_one] at hv515_0
  replace hv515_0 := Option.some.inj (hv515_0.symm.trans hx515_0)
  injection hv515_0 with hva_ hvn_ hvc_
  rw [hva_] at ge515_0
  rw [hvc_] at ul515_0
  have HL515_0 := Aside0.mk (show Kd.V (Kd.int .u8) 5 _ w.heap.size _ _ (rd_L3 l2 x8_1) from Kd.V_mk ul515_0 ge515_0)
  clear hva_ hvn_ hvc_ ge515_0 ul515_0
  clear hcc515 hce515
  have HR515_0 := Aside0.mk hi515_0
  have HC515_0 := Aside0.mk hl515_0
  clear hi515_0 hl515_0
  replace p515 := eq_true p515
  replace q515 := eq_true q515
  try go_wp2
  go_roundg k1
  case measure => have := HK1.out; omega
  case rel => exact ⟨(rd_L3 l2 x8_1), (wrap64 (x8_1 + 1)), (by (rfl)), H', ⟨by have := HK1.out; omega⟩, ⟨by (with_reducible repeat (apply Kd.V_drewN)); exact Kd.V_mono HO_2.out (fun _ hk => hk.1)⟩, ⟨by (with_reducible repeat (apply Kd.V_drewN)); (exact Kd.V_mono HL513_0.out (fun _ hk => hk.1))⟩, ⟨by repeat (with_reducible first | exact HB.out | apply pw_below_drewN)⟩⟩/-! ### notaryref47_Entries: function 46 (given) -/
def notaryref47_Entries.f (k : Nat) (key log : List Int) : Option (List S35 × List Int × Int) :=
  (notaryref47_Frames.f k log).bind fun R => (notaryref47_Right.f k key R.1 R.2.1).bind fun n => if n < (R.1.length : Int) then some ([], [], 29) else if R.2.2 = 0 then (if R.1.length = 0 then (notaryref47_First.f).bind fun t => some (R.1, t, 0) else if R.1.length ≤ R.2.1.length then some (R.1, R.2.1.getD (R.1.length - 1) [], 0) else none) else some ([], [], R.2.2)
def notaryref47_Entries.Post (w : World) (r1 : List S35) (r2 : List Int) (r3 : Int) (e : Ending) (w' : World) : Prop :=
  ∃ v0_ v1_ : Value, e = .returned (.tuple #[v0_, v1_, .int .i64 r3]) ∧ Kd.V k35 35 w' w.heap.size (fun k_ => (w.heap.size ≤ k_)) v0_ r1 ∧ Kd.V (Kd.int .u8) 5 w' w.heap.size (fun k_ => (w.heap.size ≤ k_)) v1_ r2 ∧ Below w.heap.size w w'
set_option maxHeartbeats 16000000 in
set_option maxRecDepth 100000 in
theorem notaryref47_Entries.post (k : Nat) (A0 : Option Addr) (c0 : Nat) (l0 : List Int) (A1 : Option Addr) (c1 : Nat) (l1 : List Int) (r1 : List S35) (r2 : List Int) (r3 : Int) (w : World) (hr0 : Kd.C (Kd.int .u8) w A0 l0.length l0) (hc0 : l0.length ≤ c0) (hr1 : Kd.C (Kd.int .u8) w A1 l1.length l1) (hc1 : l1.length ≤ c1) (h : notaryref47_Entries.f k l0 l1 = some (r1, r2, r3)) :
    Calls Try.prog 46 #[.slice A0 l0.length c0, .slice A1 l1.length c1] w (notaryref47_Entries.Post w r1 r2 r3) := by
  unfold notaryref47_Entries.f at h
  obtain ⟨⟨f1, f2, f3⟩, hf, h⟩ := Option.bind_eq_some_iff.mp h
  obtain ⟨n, hn, h⟩ := Option.bind_eq_some_iff.mp h
  simp only at h hn
  have HR0 := Aside0.mk hr0
  have HC0 := Aside0.mk hc0
  have HR1 := Aside0.mk hr1
  have HC1 := Aside0.mk hc1
  have HF := Aside0.mk hf
  have HN := Aside0.mk hn
  clear hr0 hc0 hr1 hc1 hf hn
  by_cases d1 : n < (f1.length : Int)
  case pos =>
    rw [if_pos d1] at h
    obtain ⟨rfl, rfl, rfl⟩ : [] = r1 ∧ [] = r2 ∧ 29 = r3 := by simpa using h
    have d1b : decide (n < (f1.length : Int)) = true := decide_eq_true d1
    clear d1 h
    go_enter Try.func46, Try.ntmps46
    go_wp2_with (first | (go_at_call 61; (with_reducible refine (notaryref47_Frames.calls k A1 c1 l1 f1 f2 _ _ HR1.out HC1.out HF.out).mono ?_); rintro e w1 ⟨v7, v8, rfl, ho1, ho2, hb1⟩; (obtain ⟨A7, c7, rfl⟩ := Kd.R_slice (Kd.S_R ho1)); (obtain ⟨A8, c8, rfl⟩ := Kd.R_slice (Kd.S_R ho2)); have HS1 := Aside0.mk ho1; have HS2 := Aside0.mk ho2; have HB1 := Aside0.mk hb1; clear ho1 ho2 hb1) | (go_at_call 62; (with_reducible refine (notaryref47_Right.calls k A0 c0 l0 A7 c7 f1 (fun _ => True) A8 c8 f2 n _ (Kd.C_below HR0.out HB1.out) HC0.out (Kd.R_reads' (Kd.S_R HS1.out)).2.2 (Kd.R_reads' (Kd.S_R HS1.out)).2.1 (Kd.S_V HS2.out) HN.out).mono ?_); rintro e w2 ⟨rfl, hb2⟩; have HB12 := Aside0.mk hb2; (have HB2 : Aside0 (Below w.heap.size w w2) := ⟨HB1.out.trans (hb2.mono HB1.out.size)⟩); clear hb2))
    go_ret3
    exact ⟨_, _, rfl, ⟨_, _, rfl, Nat.le_refl _, fun W' _ => ⟨rfl, by simp, fun h => absurd h (Nat.lt_irrefl 0)⟩⟩, ⟨_, _, rfl, Nat.le_refl _, fun W' _ => ⟨rfl, by simp, fun h => absurd h (Nat.lt_irrefl 0)⟩⟩, by repeat (first | exact HB2.out | apply below_alloc)⟩
  rw [if_neg d1] at h
  have d1b : decide (n < (f1.length : Int)) = false := decide_eq_false d1
  clear d1
  by_cases d2 : f3 = 0
  case neg =>
    rw [if_neg d2] at h
    obtain ⟨rfl, rfl, rfl⟩ : [] = r1 ∧ [] = r2 ∧ f3 = r3 := by simpa using h
    have d2b : (f3 != 0) = true := by simpa using d2
    clear d2 h
    go_enter Try.func46, Try.ntmps46
    go_wp2_with (first | (go_at_call 61; (with_reducible refine (notaryref47_Frames.calls k A1 c1 l1 f1 f2 _ _ HR1.out HC1.out HF.out).mono ?_); rintro e w1 ⟨v7, v8, rfl, ho1, ho2, hb1⟩; (obtain ⟨A7, c7, rfl⟩ := Kd.R_slice (Kd.S_R ho1)); (obtain ⟨A8, c8, rfl⟩ := Kd.R_slice (Kd.S_R ho2)); have HS1 := Aside0.mk ho1; have HS2 := Aside0.mk ho2; have HB1 := Aside0.mk hb1; clear ho1 ho2 hb1) | (go_at_call 62; (with_reducible refine (notaryref47_Right.calls k A0 c0 l0 A7 c7 f1 (fun _ => True) A8 c8 f2 n _ (Kd.C_below HR0.out HB1.out) HC0.out (Kd.R_reads' (Kd.S_R HS1.out)).2.2 (Kd.R_reads' (Kd.S_R HS1.out)).2.1 (Kd.S_V HS2.out) HN.out).mono ?_); rintro e w2 ⟨rfl, hb2⟩; have HB12 := Aside0.mk hb2; (have HB2 : Aside0 (Below w.heap.size w w2) := ⟨HB1.out.trans (hb2.mono HB1.out.size)⟩); clear hb2))
    go_ret3
    exact ⟨_, _, rfl, ⟨_, _, rfl, Nat.le_refl _, fun W' _ => ⟨rfl, by simp, fun h => absurd h (Nat.lt_irrefl 0)⟩⟩, ⟨_, _, rfl, Nat.le_refl _, fun W' _ => ⟨rfl, by simp, fun h => absurd h (Nat.lt_irrefl 0)⟩⟩, by repeat (first | exact HB2.out | apply below_alloc)⟩
  subst d2
  rw [if_pos rfl] at h
  by_cases d3 : f1.length = 0
  case pos =>
    rw [if_pos d3] at h
    obtain ⟨t, ht, h⟩ := Option.bind_eq_some_iff.mp h
    obtain ⟨rfl, rfl, rfl⟩ : f1 = r1 ∧ t = r2 ∧ 0 = r3 := by simpa using h
    have HT := Aside0.mk ht
    have d3b : ((f1.length : Int) == 0) = true := by rw [d3]; rfl
    clear d3 h ht
    go_enter Try.func46, Try.ntmps46
    go_wp2_with (first | (go_at_call 61; (with_reducible refine (notaryref47_Frames.calls k A1 c1 l1 f1 f2 _ _ HR1.out HC1.out HF.out).mono ?_); rintro e w1 ⟨v7, v8, rfl, ho1, ho2, hb1⟩; (obtain ⟨A7, c7, rfl⟩ := Kd.R_slice (Kd.S_R ho1)); (obtain ⟨A8, c8, rfl⟩ := Kd.R_slice (Kd.S_R ho2)); have HS1 := Aside0.mk ho1; have HS2 := Aside0.mk ho2; have HB1 := Aside0.mk hb1; clear ho1 ho2 hb1) | (go_at_call 62; (with_reducible refine (notaryref47_Right.calls k A0 c0 l0 A7 c7 f1 (fun _ => True) A8 c8 f2 n _ (Kd.C_below HR0.out HB1.out) HC0.out (Kd.R_reads' (Kd.S_R HS1.out)).2.2 (Kd.R_reads' (Kd.S_R HS1.out)).2.1 (Kd.S_V HS2.out) HN.out).mono ?_); rintro e w2 ⟨rfl, hb2⟩; have HB12 := Aside0.mk hb2; (have HB2 : Aside0 (Below w.heap.size w w2) := ⟨HB1.out.trans (hb2.mono HB1.out.size)⟩); clear hb2) | (go_at_call 26; (with_reducible refine (notaryref47_First.calls t _ HT.out).mono ?_); rintro e w3 ⟨v5, rfl, ho3, hb3⟩; (obtain ⟨A9, c9, rfl⟩ := Kd.R_slice ho3); have HO3 := Aside0.mk ho3; have HB23 := Aside0.mk hb3; clear ho3 hb3))
    go_ret3
    exact ⟨_, _, rfl, Kd.V_mono (Kd.V_below (Kd.V_below (Kd.S_V (Kd.S_bound HS1.out)) HB12.out) HB23.out) (fun q hq => hq.2.1), Kd.V_mono (Kd.R_V (Kd.R_bound HO3.out)) (fun q hq => Nat.le_trans HB2.out.size hq.2.1), HB2.out.trans (HB23.out.mono HB2.out.size)⟩
  rw [if_neg d3] at h
  by_cases d4 : f1.length ≤ f2.length
  case neg => rw [if_neg d4] at h; exact absurd h (by simp)
  rw [if_pos d4] at h
  obtain ⟨rfl, hr2, rfl⟩ : f1 = r1 ∧ f2.getD (f1.length - 1) [] = r2 ∧ 0 = r3 := by simpa using h
  obtain ⟨j, hj⟩ : ∃ j : Nat, f1.length = j + 1 := ⟨f1.length - 1, by omega⟩
  have d3b : ((f1.length : Int) == 0) = false := by rw [hj]; simp; omega
  have HR2 : Aside0 (f2.getD j [] = r2) := ⟨by rw [hj] at hr2; simpa using hr2⟩
  have HJ := Aside0.mk hj
  have HJ2 : Aside0 (j < f2.length) := ⟨by omega⟩
  clear d3 d4 h hr2 hj
  go_enter Try.func46, Try.ntmps46
  go_wp2_with (first | (go_at_call 61; (with_reducible refine (notaryref47_Frames.calls k A1 c1 l1 f1 f2 _ _ HR1.out HC1.out HF.out).mono ?_); rintro e w1 ⟨v7, v8, rfl, ho1, ho2, hb1⟩; (obtain ⟨A7, c7, rfl⟩ := Kd.R_slice (Kd.S_R ho1)); (obtain ⟨A8, c8, rfl⟩ := Kd.R_slice (Kd.S_R ho2)); have HS1 := Aside0.mk ho1; have HS2 := Aside0.mk ho2; have HB1 := Aside0.mk hb1; clear ho1 ho2 hb1) | (go_at_call 62; (with_reducible refine (notaryref47_Right.calls k A0 c0 l0 A7 c7 f1 (fun _ => True) A8 c8 f2 n _ (Kd.C_below HR0.out HB1.out) HC0.out (Kd.R_reads' (Kd.S_R HS1.out)).2.2 (Kd.R_reads' (Kd.S_R HS1.out)).2.1 (Kd.S_V HS2.out) HN.out).mono ?_); rintro e w2 ⟨rfl, hb2⟩; have HB12 := Aside0.mk hb2; (have HB2 : Aside0 (Below w.heap.size w w2) := ⟨HB1.out.trans (hb2.mono HB1.out.size)⟩); clear hb2))
  obtain ⟨g8, cap8, e8, _, _, _⟩ := Kd.N_form (Kd.S_N HS2.out) (by have := HJ2.out; omega)
  injection e8 with e8a _ e8c
  subst e8a
  subst e8c
  obtain ⟨cs, hcl, hfk, hcell⟩ := Kd.N_get (Kd.S_N (Kd.S_bound HS2.out)) ([] : List Int) (j : Int) (by omega) (by have := HJ2.out; omega)
  rw [Int.toNat_natCast, HR2.out] at hfk
  obtain ⟨Ar, cr, rfl, hlr, hFr⟩ := Kd.FK_slice_open hfk
  have hc0' : w1.cell? ⟨g8, j, none⟩ = some (.slice Ar r2.length cr) := by
    have := hcell 0 _ rfl
    rw [add_plain] at this
    simpa [show (Kd.slice 5 (Kd.int .u8)).sz = 1 from rfl] using this
  have hcw : w2.cell? ⟨g8, j, none⟩ = some (.slice Ar r2.length cr) := pw_cell_below HB12.out hc0'
  have hmx := (Kd.R_reads' (Kd.S_R HS2.out)).2.2.2.1
  have hw : IntKind.i64.wrap ((f1.length : Int) - 1) = (j : Int) := by rw [HJ.out]; have := HJ2.out; exact (IntWalk.i64_in _ (by omega)).trans (by omega)
  have HFR := Aside0.mk hFr
  have HLR := Aside0.mk hlr
  have p1 : (j : Int) < (f2.length : Int) := by have := HJ2.out; omega
  clear hcell hfk hcl hc0' hFr hlr hmx
  go_quiet (fail)
  try go_wp2
  go_ret3
  have hbw := HB1.out.size
  exact ⟨_, _, rfl, Kd.V_drewN (Kd.V_mono (Kd.V_below (Kd.S_V (Kd.S_bound HS1.out)) HB12.out) (fun q hq => hq.2.1)) _, ⟨Ar, cr, rfl, HLR.out, Kd.F_drewN (Kd.F_mono (Kd.F_below HFR.out HB12.out) (fun q hq => hq.1.2.1)) _⟩, pw_below_drewN HB2.out _⟩
theorem notaryref47_Entries.calls (k : Nat) (A0 : Option Addr) (c0 : Nat) (l0 : List Int) (A1 : Option Addr) (c1 : Nat) (l1 : List Int) (r1 : List S35) (r2 : List Int) (r3 : Int) (w : World) (hr0 : Kd.C (Kd.int .u8) w A0 l0.length l0) (hc0 : l0.length ≤ c0) (hr1 : Kd.C (Kd.int .u8) w A1 l1.length l1) (hc1 : l1.length ≤ c1) (h : notaryref47_Entries.f k l0 l1 = some (r1, r2, r3)) :
    Calls Try.prog 46 #[.slice A0 l0.length c0, .slice A1 l1.length c1] w fun e w' => ∃ v0_ v1_ : Value, e = .returned (.tuple #[v0_, v1_, .int .i64 r3]) ∧ Kd.V k35 35 w' w.heap.size (fun k_ => (w.heap.size ≤ k_)) v0_ r1 ∧ Kd.V (Kd.int .u8) 5 w' w.heap.size (fun k_ => (w.heap.size ≤ k_)) v1_ r2 ∧ Below w.heap.size w w' :=
  (notaryref47_Entries.post k A0 c0 l0 A1 c1 l1 r1 r2 r3 w hr0 hc0 hr1 hc1 h).mono fun _ _ h => h

/-! ### notaryref47_Verify: function 22 -/
def notaryref47_Verify.f (k : Nat) (l0 : List Int) (l1 : List Int) (a2 : Int) (l3 : List Int) : Option (Bool) := (notaryref47_Entries.f k l0 l1).bind fun bt516 => (if bt516.2.2 = 0 then (if (bt516.1.length : Int) = a2 then ((notaryref01_Same.f k bt516.2.1 l3).bind fun t523 => (some t523)) else (some false)) else (some false))
set_option maxHeartbeats 8000000 in
set_option maxRecDepth 100000 in
theorem notaryref47_Verify.calls (k : Nat) (A0 : Option Addr) (c0 : Nat) (l0 : List Int) (A1 : Option Addr) (c1 : Nat) (l1 : List Int) (a2 : Int) (A3 : Option Addr) (c3 : Nat) (l3 : List Int) (r : Bool) (w : World) (hr0 : Kd.C (Kd.int .u8) w A0 l0.length l0) (hc0 : l0.length ≤ c0) (hr1 : Kd.C (Kd.int .u8) w A1 l1.length l1) (hc1 : l1.length ≤ c1) (hr3 : Kd.C (Kd.int .u8) w A3 l3.length l3) (hc3 : l3.length ≤ c3) (h : notaryref47_Verify.f k l0 l1 a2 l3 = some r) :
    Calls Try.prog 22 #[.slice A0 l0.length c0, .slice A1 l1.length c1, .int .i64 a2, .slice A3 l3.length c3] w fun e w' => e = .returned (.bool r) ∧ Below w.heap.size w w' := by
  have HR0 := Aside0.mk hr0
  have HC0 := Aside0.mk hc0
  clear hr0 hc0
  have HR1 := Aside0.mk hr1
  have HC1 := Aside0.mk hc1
  clear hr1 hc1
  have HR3 := Aside0.mk hr3
  have HC3 := Aside0.mk hc3
  clear hr3 hc3
  have HB := Aside0.mk (Below.refl w.heap.size w)
  have H : ((notaryref47_Entries.f k l0 l1).bind fun bt516 => (if bt516.2.2 = 0 then (if (bt516.1.length : Int) = a2 then ((notaryref01_Same.f k bt516.2.1 l3).bind fun t523 => (some t523)) else (some false)) else (some false))) = some r := h
  clear h
  replace H := Option.bind_eq_some_iff.mp H
  obtain ⟨⟨t516, t519, t522⟩, A50, H⟩ := H
  replace H : (if t522 = 0 then (if (t516.length : Int) = a2 then ((notaryref01_Same.f k t519 l3).bind fun t523 => (some t523)) else (some false)) else (some false)) = some r := H
  have A5 := Aside0.mk A50
  clear A50
  by_cases c6 : t522 = 0
  rotate_left
  · rw [if_neg c6] at H
    have c6b0 : (t522 == 0) = false := beq_eq_false_iff_ne.mpr c6
    have c6b1 : (t522 != 0) = true := bne_iff_ne.mpr c6
    obtain rfl := Option.some.inj H
    go_enter Try.func22, Try.ntmps22
    go_wp2_with ((((with_reducible refine gate_callee (f := 46) rfl ?_); refine goesL_ (some 15) rfl rfl Try.func46 (by kernel_rfl) rfl #[.slice A0 l0.length c0, .slice A1 l1.length c1] rfl (by (try simp only [List.map_toArray, List.map_cons, List.map_nil]); (rfl)) ?_; (with_reducible refine (notaryref47_Entries.calls k _ _ l0 _ _ l1 t516 t519 t522 _ ?side1 ?side2 ?side3 ?side4 A5.out).mono ?_); (case side1 => repeat (exact HR0.out)); (case side2 => exact HC0.out); (case side3 => repeat (exact HR1.out)); (case side4 => exact HC1.out); rintro e w14 ⟨v517, v520, rfl, ho0, ho1, hb⟩; refine ⟨_, rfl, ?_⟩; have n0_ := Aside0.mk (Kd.V_lower (Kd.V_mono (ok' := fun k_ => True) ho0 (fun k_ hk_ => trivial)) (below_size HB.out)); have n1_ := Aside0.mk (Kd.V_lower (Kd.V_mono (ok' := fun k_ => True) ho1 (fun k_ hk_ => trivial)) (below_size HB.out)); have n2_ := Aside0.mk (below_step HB.out hb); clear HB; have HO518 := n0_; have HO521 := n1_; have HB := n2_; clear n0_ n1_ n2_; (try clear hb); (try clear ho0); (try clear ho1))))
    go_ret
    exact ⟨by (rfl), HB.out⟩

  rw [if_pos c6] at H
  have c6b0 : (t522 == 0) = true := beq_iff_eq.mpr c6
  have c6b1 : (t522 != 0) = false := bne_eq_false_iff_eq.mpr c6
  clear c6
  by_cases c7 : (t516.length : Int) = a2
  rotate_left
  · rw [if_neg c7] at H
    have c7b0 : ((t516.length : Int) == a2) = false := beq_eq_false_iff_ne.mpr c7
    have c7b1 : ((t516.length : Int) != a2) = true := bne_iff_ne.mpr c7
    obtain rfl := Option.some.inj H
    go_enter Try.func22, Try.ntmps22
    go_wp2_with ((((with_reducible refine gate_callee (f := 46) rfl ?_); refine goesL_ (some 15) rfl rfl Try.func46 (by kernel_rfl) rfl #[.slice A0 l0.length c0, .slice A1 l1.length c1] rfl (by (try simp only [List.map_toArray, List.map_cons, List.map_nil]); (rfl)) ?_; (with_reducible refine (notaryref47_Entries.calls k _ _ l0 _ _ l1 t516 t519 t522 _ ?side1 ?side2 ?side3 ?side4 A5.out).mono ?_); (case side1 => repeat (exact HR0.out)); (case side2 => exact HC0.out); (case side3 => repeat (exact HR1.out)); (case side4 => exact HC1.out); rintro e w12 ⟨v517, v520, rfl, ho0, ho1, hb⟩; refine ⟨_, rfl, ?_⟩; have n0_ := Aside0.mk (Kd.V_lower (Kd.V_mono (ok' := fun k_ => True) ho0 (fun k_ hk_ => trivial)) (below_size HB.out)); have n1_ := Aside0.mk (Kd.V_lower (Kd.V_mono (ok' := fun k_ => True) ho1 (fun k_ hk_ => trivial)) (below_size HB.out)); have n2_ := Aside0.mk (below_step HB.out hb); clear HB; have HO518 := n0_; have HO521 := n1_; have HB := n2_; clear n0_ n1_ n2_; (try clear hb); (try clear ho0); (try clear ho1); obtain ⟨Ao13, co13, eo13⟩ := Kd.V_slice HO518.out; subst eo13)))
    go_ret
    exact ⟨by (rfl), HB.out⟩
  rw [if_pos c7] at H
  have c7b0 : ((t516.length : Int) == a2) = true := beq_iff_eq.mpr c7
  have c7b1 : ((t516.length : Int) != a2) = false := bne_eq_false_iff_eq.mpr c7
  clear c7
  replace H := Option.bind_eq_some_iff.mp H
  obtain ⟨t523, A80, H⟩ := H
  replace H : (some t523) = some r := H
  have A8 := Aside0.mk A80
  clear A80
  obtain rfl := Option.some.inj H
  go_enter Try.func22, Try.ntmps22
  go_wp2_with (first | ((with_reducible refine gate_callee (f := 46) rfl ?_); refine goesL_ (some 15) rfl rfl Try.func46 (by kernel_rfl) rfl #[.slice A0 l0.length c0, .slice A1 l1.length c1] rfl (by (try simp only [List.map_toArray, List.map_cons, List.map_nil]); (rfl)) ?_; (with_reducible refine (notaryref47_Entries.calls k _ _ l0 _ _ l1 t516 t519 t522 _ ?side1 ?side2 ?side3 ?side4 A5.out).mono ?_); (case side1 => repeat (exact HR0.out)); (case side2 => exact HC0.out); (case side3 => repeat (exact HR1.out)); (case side4 => exact HC1.out); rintro e w9 ⟨v517, v520, rfl, ho0, ho1, hb⟩; refine ⟨_, rfl, ?_⟩; have n0_ := Aside0.mk (Kd.V_lower (Kd.V_mono (ok' := fun k_ => True) ho0 (fun k_ hk_ => trivial)) (below_size HB.out)); have n1_ := Aside0.mk (Kd.V_lower (Kd.V_mono (ok' := fun k_ => True) ho1 (fun k_ hk_ => trivial)) (below_size HB.out)); have n2_ := Aside0.mk (below_step HB.out hb); clear HB; have HO518 := n0_; have HO521 := n1_; have HB := n2_; clear n0_ n1_ n2_; (try clear hb); (try clear ho0); (try clear ho1); obtain ⟨Ao10, co10, eo10⟩ := Kd.V_slice HO518.out; subst eo10; obtain ⟨Ao11, co11, eo11⟩ := Kd.V_slice HO521.out; subst eo11) | (go_at_call 16; (with_reducible refine (notaryref01_Same.calls k _ _ t519 _ _ l3 t523 _ ?side1 ?side2 ?side3 ?side4 A8.out).mono ?_); (case side1 => repeat ((exact (Kd.V_reads' HO521.out).2.2))); (case side2 => exact (Kd.V_reads' HO521.out).2.1); (case side3 => exact Kd.C_below HR3.out HB.out); (case side4 => exact HC3.out); rintro e w' ⟨rfl, ⟨nd, rfl⟩⟩))
  go_ret
  exact ⟨by (rfl), by repeat (with_reducible first | exact HB.out | apply pw_below_drewN)⟩
end Go.Proofs.Ytogjnipojakfjaa.PJv
