-- SLIM: a printed text of which the unused ways are cut off
-- PRINTED by print.py (a twelfth state) out of the translation. Not trusted: Lean checks it.
import Derived.Test.YtgjmidpoebnieaaPDmx0
import Derived.Test.YtgjmidpoebnieaaPDmx3
import Derived.Test.YtgjmidpoebnieaaPDmx10
namespace Go.Proofs.Ytgjmidpoebnieaa.PDm
open Go.RowKit Go.Proofs.YtgjmidpoebnieaaW.PrintWords Go.Proofs.YtgjmidpoebnieaaW.PrintLast Go.Proofs.YtgjmidpoebnieaaW.PrintMore
attribute [local go_sem] max2_int min2_int max_two min_two max_three min_three max_four min_four   -- for this text's walks alone
set_option linter.unusedVariables false
set_option linter.unusedSimpArgs false

/-! ### decls_inverse: function 29 -/
def decls_inverse.l0 : Nat → Int → List Int → Int → Int → List Int → Option (List Int × Bool)
  | 0, _, _, _, _, _ => none
  | k + 1, x1, x18, x19, x20, x273000 => if x20 < x19 then (if 0 ≤ x20 then (if x20 < (x18.length : Int) then (if (rd x18 x20) < 0 then (some (x273000, false)) else (if (rd x18 x20) ≥ x1 then (some (x273000, false)) else (if 0 ≤ (rd x18 x20) then (if (rd x18 x20) < (x273000.length : Int) then (if (rd x273000 (rd x18 x20)) ≥ 0 then (some (x273000, false)) else (decls_inverse.l0 k x1 x18 x19 (wrap64 (x20 + 1)) (x273000.set ((rd x18 x20) : Int).toNat x20))) else (none)) else (none)))) else (none)) else (none)) else (some (x273000, true))
def decls_inverse.f (k : Nat) (l0 : List Int) (a1 : Int) : Option (List Int × Bool) := (slices_Repeat_int_int.f (([(-1)] : List Int)) a1).bind fun t269 => (if (l0.length : Int) = a1 then (decls_inverse.l0 k a1 l0 (l0.length : Int) 0 t269) else (some (t269, false)))
theorem decls_inverse.mono_l : ∀ k, (∀ y0 y1 y2 y3 y4, LeO (decls_inverse.l0 k y0 y1 y2 y3 y4) (decls_inverse.l0 (k + 1) y0 y1 y2 y3 y4))
  | 0 => fun _ _ _ _ _ r h => by simp [decls_inverse.l0] at h
  | k + 1 => by
    have ih0 := decls_inverse.mono_l k
    · intro y0 y1 y2 y3 y4
      unfold decls_inverse.l0
      repeat' first | (with_reducible exact ih0 _ _ _ _ _) | (with_reducible exact LeO.refl _) | (with_reducible refine LeO.ite ?_ ?_)
theorem decls_inverse.mono : ∀ a0 a1 k, LeO (decls_inverse.f k a0 a1) (decls_inverse.f (k + 1) a0 a1) := by
  intro a0 a1 k
  have ih0 := decls_inverse.mono_l k
  unfold decls_inverse.f
  repeat' first | (with_reducible exact ih0 _ _ _ _ _) | (with_reducible exact LeO.refl _) | (with_reducible refine LeO.ite ?_ ?_) | (with_reducible refine LeO.bind ?_ (fun _ => ?_))
set_option maxHeartbeats 8000000 in
set_option maxRecDepth 100000 in
theorem decls_inverse.calls (k : Nat) (A0 : Option Addr) (c0 : Nat) (l0 : List Int) (a1 : Int) (r1 : List Int) (r2 : Bool) (w : World) (hr0 : Kd.C (Kd.int .i64) w A0 l0.length l0) (hc0 : l0.length ≤ c0) (h : decls_inverse.f k l0 a1 = some (r1, r2)) :
    Calls Try.prog 29 #[.slice A0 l0.length c0, .int .i64 a1] w fun e w' => ∃ v0_ : Value, e = .returned (.tuple #[.agg #[v0_], .bool r2]) ∧ Kd.R (Kd.int .i64) 3 w' w.heap.size (fun _ => True) v0_ r1 ∧ Below w.heap.size w w' := by
  have hu49 := Try.underlying49
  have HR0 := Aside0.mk hr0
  have HC0 := Aside0.mk hc0
  clear hr0 hc0
  have HB := Aside0.mk (Below.refl w.heap.size w)
  have H : ((slices_Repeat_int_int.f (([(-1)] : List Int)) a1).bind fun t269 => (if (l0.length : Int) = a1 then (decls_inverse.l0 k a1 l0 (l0.length : Int) 0 t269) else (some (t269, false)))) = some (r1, r2) := h
  clear h
  obtain ⟨y266, hy266⟩ : ∃ y_ : List Int, y_ = (([(-1)] : List Int)) := ⟨_, rfl⟩
  replace H : ((slices_Repeat_int_int.f y266 a1).bind fun t269 => (if (l0.length : Int) = a1 then (decls_inverse.l0 k a1 l0 (l0.length : Int) 0 t269) else (some (t269, false)))) = some (r1, r2) := by (rw [hy266]; with_reducible exact H)
  have Ny266 := Aside0.mk hy266
  clear hy266
  replace H := Option.bind_eq_some_iff.mp H
  obtain ⟨t269, A30, H⟩ := H
  replace H : (if (l0.length : Int) = a1 then (decls_inverse.l0 k a1 l0 (l0.length : Int) 0 t269) else (some (t269, false))) = some (r1, r2) := H
  have A3 := Aside0.mk A30
  clear A30
  by_cases c4 : (l0.length : Int) = a1
  rotate_left
  · rw [if_neg c4] at H
    have c4b0 : ((l0.length : Int) == a1) = false := beq_eq_false_iff_ne.mpr c4
    have c4b1 : ((l0.length : Int) != a1) = true := bne_iff_ne.mpr c4
    simp only [Option.some.injEq, Prod.mk.injEq] at H
    obtain ⟨rfl, rfl⟩ := H
    go_enter Try.func29, Try.ntmps29
    go_wp2_with (first | ((with_reducible refine gate_dst (N := 4) rfl ?_); refine box_event ?hg (N := 4) ?hd (cs := #[.slice none 0 0]) (t := 49) ?hr ?_; (case hd => rfl); (case hg => rfl); (case hr => (go_simp; done)); intro gb265 hg w44 hbox hb; have n0_ := Aside0.mk (below_step HB.out hb); have n1_ := Aside0.mk (hbox); have n2_ := Aside0.mk ((by rw [hg]; exact (below_size HB.out) : w.heap.size ≤ gb265)); have n3_ := Aside0.mk ((by rw [hg]; exact (below_size HB.out) : w.heap.size ≤ gb265)); clear HB; have HB := n0_; have BK265 := n1_; have GW265 := n2_; have GE265 := n3_; clear n0_ n1_ n2_ n3_; clear hb hbox hg) | ((with_reducible refine gate_dst (N := 9) rfl ?_); refine Kd.R_lit (Kd.int .i64) _ 3 ?hg (N := 9) ?hd (xs := ([(-1)] : List Int)) (inner := [.int .i64 (-1)]) (ok := fun _ => True) (okp := fun _ => True) ?hr ?hp (fun _ hk => hk) trivial (Below.refl _ _) (Nat.le_refl _) (by simp) ?_; (case hd => rfl); (case hg => rfl); (case hr => (go_simp; done)); (case hp => exact (Reps.one (show Kd.M (Kd.int .i64) _ _ _ (-1) [.int .i64 (-1)] from rfl) (Reps.none _ _))); intro v267 w45 ho46 hb hg_ hnew_; clear hg_ hnew_; (rw [← Ny266.out] at ho46); have n0_ := Aside0.mk (Kd.R_lower ho46 (below_size HB.out)); have n1_ := Aside0.mk (blk_below (g := gb265) (o := .cells #[.slice none 0 0] 49 (0, 0)) (by exact BK265.out) hb); have n2_ := Aside0.mk (below_step HB.out hb); clear BK265; clear HB; have HO268 := n0_; have BK265 := n1_; have HB := n2_; clear n0_ n1_ n2_; clear hb ho46; obtain ⟨Ao47, co47, eo47⟩ := Kd.R_slice HO268.out; subst eo47) | ((with_reducible refine gate_callee (f := 38) rfl ?_); refine goesL_ (some 11) rfl rfl Try.func38 (by kernel_rfl) rfl #[.slice Ao47 y266.length co47, .int .i64 a1] rfl (by (try simp only [List.map_toArray, List.map_cons, List.map_nil]); (rfl)) ?_; (with_reducible refine (slices_Repeat_int_int.calls _ _ y266 a1 t269 _ ?side1 ?side2 A3.out).mono ?_); (case side1 => repeat ((exact (Kd.R_reads' HO268.out).2.2))); (case side2 => exact (Kd.R_reads' HO268.out).2.1); rintro e w48 ⟨v270, rfl, ho0, hb⟩; refine ⟨_, rfl, ?_⟩; have n0_ := Aside0.mk (Kd.R_elder' (by exact HO268.out) (Kd.R_base ho0) hb); have n1_ := Aside0.mk (Kd.R_lower (Kd.R_new' ho0 (Kd.R_lt (by exact HO268.out))) (below_size HB.out)); have n2_ := Aside0.mk (blk_below (g := gb265) (o := .cells #[.slice none 0 0] 49 (0, 0)) (by exact BK265.out) hb); have n3_ := Aside0.mk (below_step HB.out hb); clear HO268; clear BK265; clear HB; have HO268 := n0_; have HO271 := n1_; have BK265 := n2_; have HB := n3_; clear n0_ n1_ n2_ n3_; (try clear hb); (try clear ho0); obtain ⟨Ao49, co49, eo49⟩ := Kd.R_slice HO271.out; subst eo49) | ((with_reducible refine gate_dst (N := 6) rfl ?_); refine box_event ?hg (N := 6) ?hd (cs := #[.slice none 0 0]) (t := 49) ?hr ?_; (case hd => rfl); (case hg => rfl); (case hr => (go_simp; done)); intro gb272 hg w50 hbox hb; have n0_ := Aside0.mk (Kd.R_below (by exact HO268.out) hb); have n1_ := Aside0.mk (Kd.R_below (by exact HO271.out) hb); have n2_ := Aside0.mk (blk_below (g := gb265) (o := .cells #[.slice none 0 0] 49 (0, 0)) (by exact BK265.out) hb); have n3_ := Aside0.mk (below_step HB.out hb); have n4_ := Aside0.mk (hbox); have n5_ := Aside0.mk ((by rw [hg]; exact (below_size HB.out) : w.heap.size ≤ gb272)); have n6_ := Aside0.mk ((by rw [hg]; exact (below_size HB.out) : w.heap.size ≤ gb272)); have n7_ := Aside0.mk ((by rw [hg]; exact Nat.ne_of_lt (blk_lt (g := gb265) (o := .cells #[.slice none 0 0] 49 (0, 0)) (by exact BK265.out)) : gb265 ≠ gb272)); have n8_ := Aside0.mk ((by rw [hg]; exact Nat.ne_of_gt (blk_lt (g := gb265) (o := .cells #[.slice none 0 0] 49 (0, 0)) (by exact BK265.out)) : gb272 ≠ gb265)); clear HO268; clear HO271; clear BK265; clear HB; have HO268 := n0_; have HO271 := n1_; have BK265 := n2_; have HB := n3_; have BK272 := n4_; have GW272 := n5_; have GE272 := n6_; have NB265_272 := n7_; have NB272_265 := n8_; clear n0_ n1_ n2_ n3_ n4_ n5_ n6_ n7_ n8_; clear hb hbox hg; have hnb51 := NB272_265.out; have hnc51 := NB265_272.out; have hcz52_0 : w50.cell? ⟨gb272, 0, none⟩ = some (.slice none 0 0) := (blk_cell BK272.out 0).trans rfl; have hfz52_0 := blk_frozen BK272.out 0; have hcz53_0 : w50.cell? ⟨gb265, 0, none⟩ = some (.slice none 0 0) := (blk_cell BK265.out 0).trans rfl; have hfz53_0 := blk_frozen BK265.out 0))
    refine bodyPost_ret (results_ct rfl _ _ gb265 49 #[.slice Ao49 t269.length co49] (0, 0) _ rfl (by refine blk_put (cs := #[.slice none 0 0]) ?_ 0 _ rfl; refine blk_far ?_ NB265_272.out _; exact BK265.out) Try.underlying49 rfl (by kernel_rfl)) rfl ?_
    exact ⟨_, by (rfl), by exact Kd.R_mono (Kd.R_far (p := ⟨gb265, 0, none⟩) (Kd.R_far (p := ⟨gb272, 0, none⟩) (Kd.R_types (Kd.R_types HO271.out BK272.out (by decide)) BK265.out (by decide)) (fun _ hk => hk.1.2) (.slice Ao49 t269.length co49)) (fun _ hk => hk.2) (.slice Ao49 t269.length co49)) (fun _ hk => trivial), by repeat (with_reducible first | exact HB.out | refine below_set ?_ GE265.out | refine below_set ?_ GE272.out)⟩


  rw [if_pos c4] at H
  have c4b0 : ((l0.length : Int) == a1) = true := beq_iff_eq.mpr c4
  have c4b1 : ((l0.length : Int) != a1) = false := bne_eq_false_iff_eq.mpr c4
  clear c4
  have H' := Aside0.mk H
  clear H
  go_enter Try.func29, Try.ntmps29
  go_wp2_with (first | ((with_reducible refine gate_dst (N := 4) rfl ?_); refine box_event ?hg (N := 4) ?hd (cs := #[.slice none 0 0]) (t := 49) ?hr ?_; (case hd => rfl); (case hg => rfl); (case hr => (go_simp; done)); intro gb265 hg w5 hbox hb; have n0_ := Aside0.mk (below_step HB.out hb); have n1_ := Aside0.mk (hbox); have n2_ := Aside0.mk ((by rw [hg]; exact (below_size HB.out) : w.heap.size ≤ gb265)); have n3_ := Aside0.mk ((by rw [hg]; exact (below_size HB.out) : w.heap.size ≤ gb265)); clear HB; have HB := n0_; have BK265 := n1_; have GW265 := n2_; have GE265 := n3_; clear n0_ n1_ n2_ n3_; clear hb hbox hg) | ((with_reducible refine gate_dst (N := 9) rfl ?_); refine Kd.R_lit (Kd.int .i64) _ 3 ?hg (N := 9) ?hd (xs := ([(-1)] : List Int)) (inner := [.int .i64 (-1)]) (ok := fun _ => True) (okp := fun _ => True) ?hr ?hp (fun _ hk => hk) trivial (Below.refl _ _) (Nat.le_refl _) (by simp) ?_; (case hd => rfl); (case hg => rfl); (case hr => (go_simp; done)); (case hp => exact (Reps.one (show Kd.M (Kd.int .i64) _ _ _ (-1) [.int .i64 (-1)] from rfl) (Reps.none _ _))); intro v267 w6 ho7 hb hg_ hnew_; clear hg_ hnew_; (rw [← Ny266.out] at ho7); have n0_ := Aside0.mk (Kd.R_lower ho7 (below_size HB.out)); have n1_ := Aside0.mk (blk_below (g := gb265) (o := .cells #[.slice none 0 0] 49 (0, 0)) (by exact BK265.out) hb); have n2_ := Aside0.mk (below_step HB.out hb); clear BK265; clear HB; have HO268 := n0_; have BK265 := n1_; have HB := n2_; clear n0_ n1_ n2_; clear hb ho7; obtain ⟨Ao8, co8, eo8⟩ := Kd.R_slice HO268.out; subst eo8) | ((with_reducible refine gate_callee (f := 38) rfl ?_); refine goesL_ (some 11) rfl rfl Try.func38 (by kernel_rfl) rfl #[.slice Ao8 y266.length co8, .int .i64 a1] rfl (by (try simp only [List.map_toArray, List.map_cons, List.map_nil]); (rfl)) ?_; (with_reducible refine (slices_Repeat_int_int.calls _ _ y266 a1 t269 _ ?side1 ?side2 A3.out).mono ?_); (case side1 => repeat ((exact (Kd.R_reads' HO268.out).2.2))); (case side2 => exact (Kd.R_reads' HO268.out).2.1); rintro e w9 ⟨v270, rfl, ho0, hb⟩; refine ⟨_, rfl, ?_⟩; have n0_ := Aside0.mk (Kd.R_elder' (by exact HO268.out) (Kd.R_base ho0) hb); have n1_ := Aside0.mk (Kd.R_lower (Kd.R_new' ho0 (Kd.R_lt (by exact HO268.out))) (below_size HB.out)); have n2_ := Aside0.mk (blk_below (g := gb265) (o := .cells #[.slice none 0 0] 49 (0, 0)) (by exact BK265.out) hb); have n3_ := Aside0.mk (below_step HB.out hb); clear HO268; clear BK265; clear HB; have HO268 := n0_; have HO271 := n1_; have BK265 := n2_; have HB := n3_; clear n0_ n1_ n2_ n3_; (try clear hb); (try clear ho0); obtain ⟨Ao10, co10, eo10⟩ := Kd.R_slice HO271.out; subst eo10) | ((with_reducible refine gate_dst (N := 6) rfl ?_); refine box_event ?hg (N := 6) ?hd (cs := #[.slice none 0 0]) (t := 49) ?hr ?_; (case hd => rfl); (case hg => rfl); (case hr => (go_simp; done)); intro gb272 hg w11 hbox hb; have n0_ := Aside0.mk (Kd.R_below (by exact HO268.out) hb); have n1_ := Aside0.mk (Kd.R_below (by exact HO271.out) hb); have n2_ := Aside0.mk (blk_below (g := gb265) (o := .cells #[.slice none 0 0] 49 (0, 0)) (by exact BK265.out) hb); have n3_ := Aside0.mk (below_step HB.out hb); have n4_ := Aside0.mk (hbox); have n5_ := Aside0.mk ((by rw [hg]; exact (below_size HB.out) : w.heap.size ≤ gb272)); have n6_ := Aside0.mk ((by rw [hg]; exact (below_size HB.out) : w.heap.size ≤ gb272)); have n7_ := Aside0.mk ((by rw [hg]; exact Nat.ne_of_lt (blk_lt (g := gb265) (o := .cells #[.slice none 0 0] 49 (0, 0)) (by exact BK265.out)) : gb265 ≠ gb272)); have n8_ := Aside0.mk ((by rw [hg]; exact Nat.ne_of_gt (blk_lt (g := gb265) (o := .cells #[.slice none 0 0] 49 (0, 0)) (by exact BK265.out)) : gb272 ≠ gb265)); clear HO268; clear HO271; clear BK265; clear HB; have HO268 := n0_; have HO271 := n1_; have BK265 := n2_; have HB := n3_; have BK272 := n4_; have GW272 := n5_; have GE272 := n6_; have NB265_272 := n7_; have NB272_265 := n8_; clear n0_ n1_ n2_ n3_ n4_ n5_ n6_ n7_ n8_; clear hb hbox hg; have hnb12 := NB272_265.out; have hnc12 := NB265_272.out; have hcz13_0 : w11.cell? ⟨gb272, 0, none⟩ = some (.slice none 0 0) := (blk_cell BK272.out 0).trans rfl; have hfz13_0 := blk_frozen BK272.out 0))
  go_loopg [20] k (fun kq v20 w' => ∃ (x20_1 : Int) (x273000_1 : List Int) (u273000 : Value), v20 = .int .i64 x20_1 ∧ Aside0 (decls_inverse.l0 kq a1 l0 (l0.length : Int) x20_1 x273000_1 = some (r1, r2)) ∧ Aside0 (kq ≤ k) ∧ Aside0 (Kd.R (Kd.int .i64) 3 w' w.heap.size (fun _ => True) u273000 x273000_1) ∧ Aside0 (w'.heap[gb265]? = some (.cells #[(.slice none 0 0)] 49 (0, 0))) ∧ Aside0 (w'.heap[gb272]? = some (.cells #[u273000] 49 (0, 0))) ∧ Aside0 (Below w.heap.size w w'))
  case atStart => exact ⟨(0), (t269), (.slice Ao10 t269.length co10), (by (rfl)), H', ⟨Nat.le_refl _⟩, ⟨by exact Kd.R_mono (Kd.R_far (p := ⟨gb272, 0, none⟩) (Kd.R_types HO271.out BK272.out (by decide)) (fun _ hk => hk.2) (.slice Ao10 t269.length co10)) (fun _ hk => trivial)⟩, ⟨by refine blk_far ?_ NB265_272.out _; exact BK265.out⟩, ⟨by refine blk_put (cs := #[.slice none 0 0]) ?_ 0 _ rfl; exact BK272.out⟩, ⟨by repeat (with_reducible first | exact HB.out | refine below_set ?_ GE272.out)⟩⟩
  clear H'
  try clear c4b0
  try clear c4b1
  try clear hcz13_0
  try clear hfz13_0
  obtain ⟨x20_1, x273000_1, u273000, rfl, HA, HK1, HO_273000, BK265, BK272, HB⟩ := hrel
  rcases gk with _ | k1
  · exact absurd HA.out (by simp [decls_inverse.l0])
  have H := HA.out
  clear HA
  simp only [decls_inverse.l0] at H
  by_cases c14 : x20_1 < (l0.length : Int)
  rotate_left
  · rw [if_neg c14] at H
    have c14b0 : decide (x20_1 < (l0.length : Int)) = false := decide_eq_false c14
    clear c14
    simp only [Option.some.injEq, Prod.mk.injEq] at H
    obtain ⟨rfl, rfl⟩ := H
    have hnb40 := NB272_265.out
    have hnc40 := NB265_272.out
    have hcz41_0 : wr.cell? ⟨gb272, 0, none⟩ = some (u273000) := (blk_cell BK272.out 0).trans rfl
    have hfz41_0 := blk_frozen BK272.out 0
    obtain ⟨Ao42, co42, eo42⟩ := Kd.R_slice HO_273000.out
    subst eo42
    have hcz43_0 : wr.cell? ⟨gb265, 0, none⟩ = some (.slice none 0 0) := (blk_cell BK265.out 0).trans rfl
    have hfz43_0 := blk_frozen BK265.out 0
    go_wp2
    refine bodyPost_ret (results_ct rfl _ _ gb265 49 #[.slice Ao42 x273000_1.length co42] (0, 0) _ rfl (by refine blk_put (cs := #[.slice none 0 0]) ?_ 0 _ rfl; exact BK265.out) Try.underlying49 rfl (by kernel_rfl)) rfl ?_
    exact ⟨_, by (rfl), by exact Kd.R_mono (Kd.R_far (p := ⟨gb265, 0, none⟩) (Kd.R_types HO_273000.out BK265.out (by decide)) (fun _ hk => hk.2) (.slice Ao42 x273000_1.length co42)) (fun _ hk => trivial), by repeat (with_reducible first | exact HB.out | refine below_set ?_ GE265.out)⟩
  rw [if_pos c14] at H
  have c14b0 : decide (x20_1 < (l0.length : Int)) = true := decide_eq_true c14
  clear c14
  by_cases c15 : 0 ≤ x20_1
  rotate_left
  · rw [if_neg c15] at H
    exact absurd H (by simp)
  rw [if_pos c15] at H
  have c15b0 : decide (0 ≤ x20_1) = true := decide_eq_true c15
  clear c15
  by_cases c16 : x20_1 < (l0.length : Int)
  rotate_left
  · rw [if_neg c16] at H
    exact absurd H (by simp)
  rw [if_pos c16] at H
  have c16b0 : decide (x20_1 < (l0.length : Int)) = true := decide_eq_true c16
  clear c16
  by_cases c17 : (rd l0 x20_1) < 0
  · rw [if_pos c17] at H
    have c17b0 : decide ((rd l0 x20_1) < 0) = true := decide_eq_true c17
    clear c17
    simp only [Option.some.injEq, Prod.mk.injEq] at H
    obtain ⟨rfl, rfl⟩ := H
    have p273 : 0 ≤ (x20_1 : Int) := of_decide_eq_true (by (with_reducible assumption))
    have q273 : x20_1 < (l0.length : Int) := of_decide_eq_true (by (with_reducible assumption))
    obtain ⟨ad273, e273, hx273_0⟩ := Kd.at_int HR0.out x20_1 p273 q273
    cases e273
    replace hx273_0 := pw_cell_below HB.out hx273_0
    replace p273 := eq_true p273
    replace q273 := eq_true q273
    have hnb18 := NB272_265.out
    have hnc18 := NB265_272.out
    have hcz19_0 : wr.cell? ⟨gb272, 0, none⟩ = some (u273000) := (blk_cell BK272.out 0).trans rfl
    have hfz19_0 := blk_frozen BK272.out 0
    obtain ⟨Ao20, co20, eo20⟩ := Kd.R_slice HO_273000.out
    subst eo20
    have hcz21_0 : wr.cell? ⟨gb265, 0, none⟩ = some (.slice none 0 0) := (blk_cell BK265.out 0).trans rfl
    have hfz21_0 := blk_frozen BK265.out 0
    go_wp2
    refine bodyPost_ret (results_ct rfl _ _ gb265 49 #[.slice Ao20 x273000_1.length co20] (0, 0) _ rfl (by refine blk_put (cs := #[.slice none 0 0]) ?_ 0 _ rfl; exact BK265.out) Try.underlying49 rfl (by kernel_rfl)) rfl ?_
    exact ⟨_, by (rfl), by exact Kd.R_mono (Kd.R_far (p := ⟨gb265, 0, none⟩) (Kd.R_types HO_273000.out BK265.out (by decide)) (fun _ hk => hk.2) (.slice Ao20 x273000_1.length co20)) (fun _ hk => trivial), by repeat (with_reducible first | exact HB.out | refine below_set ?_ GE265.out)⟩
  rw [if_neg c17] at H
  have c17b0 : decide ((rd l0 x20_1) < 0) = false := decide_eq_false c17
  clear c17
  by_cases c22 : (rd l0 x20_1) ≥ a1
  · rw [if_pos c22] at H
    have c22b0 : decide (a1 ≤ (rd l0 x20_1)) = true := decide_eq_true c22
    clear c22
    simp only [Option.some.injEq, Prod.mk.injEq] at H
    obtain ⟨rfl, rfl⟩ := H
    have p273 : 0 ≤ (x20_1 : Int) := of_decide_eq_true (by (with_reducible assumption))
    have q273 : x20_1 < (l0.length : Int) := of_decide_eq_true (by (with_reducible assumption))
    obtain ⟨ad273, e273, hx273_0⟩ := Kd.at_int HR0.out x20_1 p273 q273
    cases e273
    replace hx273_0 := pw_cell_below HB.out hx273_0
    replace p273 := eq_true p273
    replace q273 := eq_true q273
    have hnb23 := NB272_265.out
    have hnc23 := NB265_272.out
    have hcz24_0 : wr.cell? ⟨gb272, 0, none⟩ = some (u273000) := (blk_cell BK272.out 0).trans rfl
    have hfz24_0 := blk_frozen BK272.out 0
    obtain ⟨Ao25, co25, eo25⟩ := Kd.R_slice HO_273000.out
    subst eo25
    have hcz26_0 : wr.cell? ⟨gb265, 0, none⟩ = some (.slice none 0 0) := (blk_cell BK265.out 0).trans rfl
    have hfz26_0 := blk_frozen BK265.out 0
    go_wp2
    refine bodyPost_ret (results_ct rfl _ _ gb265 49 #[.slice Ao25 x273000_1.length co25] (0, 0) _ rfl (by refine blk_put (cs := #[.slice none 0 0]) ?_ 0 _ rfl; exact BK265.out) Try.underlying49 rfl (by kernel_rfl)) rfl ?_
    exact ⟨_, by (rfl), by exact Kd.R_mono (Kd.R_far (p := ⟨gb265, 0, none⟩) (Kd.R_types HO_273000.out BK265.out (by decide)) (fun _ hk => hk.2) (.slice Ao25 x273000_1.length co25)) (fun _ hk => trivial), by repeat (with_reducible first | exact HB.out | refine below_set ?_ GE265.out)⟩
  rw [if_neg c22] at H
  have c22b0 : decide (a1 ≤ (rd l0 x20_1)) = false := decide_eq_false c22
  clear c22
  by_cases c27 : 0 ≤ (rd l0 x20_1)
  rotate_left
  · rw [if_neg c27] at H
    exact absurd H (by simp)
  rw [if_pos c27] at H
  have c27b0 : decide (0 ≤ (rd l0 x20_1)) = true := decide_eq_true c27
  clear c27
  by_cases c28 : (rd l0 x20_1) < (x273000_1.length : Int)
  rotate_left
  · rw [if_neg c28] at H
    exact absurd H (by simp)
  rw [if_pos c28] at H
  have c28b0 : decide ((rd l0 x20_1) < (x273000_1.length : Int)) = true := decide_eq_true c28
  clear c28
  by_cases c29 : (rd x273000_1 (rd l0 x20_1)) ≥ 0
  · rw [if_pos c29] at H
    have c29b0 : decide (0 ≤ (rd x273000_1 (rd l0 x20_1))) = true := decide_eq_true c29
    clear c29
    simp only [Option.some.injEq, Prod.mk.injEq] at H
    obtain ⟨rfl, rfl⟩ := H
    have p273 : 0 ≤ (x20_1 : Int) := of_decide_eq_true (by (with_reducible assumption))
    have q273 : x20_1 < (l0.length : Int) := of_decide_eq_true (by (with_reducible assumption))
    obtain ⟨ad273, e273, hx273_0⟩ := Kd.at_int HR0.out x20_1 p273 q273
    cases e273
    replace hx273_0 := pw_cell_below HB.out hx273_0
    replace p273 := eq_true p273
    replace q273 := eq_true q273
    have hnb30 := NB272_265.out
    have hnc30 := NB265_272.out
    have hcz31_0 : wr.cell? ⟨gb272, 0, none⟩ = some (u273000) := (blk_cell BK272.out 0).trans rfl
    have hfz31_0 := blk_frozen BK272.out 0
    obtain ⟨Ao32, co32, eo32⟩ := Kd.R_slice HO_273000.out
    subst eo32
    have p274 : 0 ≤ ((rd l0 x20_1) : Int) := of_decide_eq_true (by (with_reducible assumption))
    have q274 : (rd l0 x20_1) < (x273000_1.length : Int) := of_decide_eq_true (by (with_reducible assumption))
    obtain ⟨ad274, e274, hx274_0⟩ := Kd.at_int (Kd.R_reads' HO_273000.out).2.2 (rd l0 x20_1) p274 q274
    cases e274
    replace p274 := eq_true p274
    replace q274 := eq_true q274
    have hcz33_0 : wr.cell? ⟨gb265, 0, none⟩ = some (.slice none 0 0) := (blk_cell BK265.out 0).trans rfl
    have hfz33_0 := blk_frozen BK265.out 0
    go_wp2
    refine bodyPost_ret (results_ct rfl _ _ gb265 49 #[.slice (some ad274) x273000_1.length co32] (0, 0) _ rfl (by refine blk_put (cs := #[.slice none 0 0]) ?_ 0 _ rfl; exact BK265.out) Try.underlying49 rfl (by kernel_rfl)) rfl ?_
    exact ⟨_, by (rfl), by exact Kd.R_mono (Kd.R_far (p := ⟨gb265, 0, none⟩) (Kd.R_types HO_273000.out BK265.out (by decide)) (fun _ hk => hk.2) (.slice (some ad274) x273000_1.length co32)) (fun _ hk => trivial), by repeat (with_reducible first | exact HB.out | refine below_set ?_ GE265.out)⟩
  rw [if_neg c29] at H
  have c29b0 : decide (0 ≤ (rd x273000_1 (rd l0 x20_1))) = false := decide_eq_false c29
  clear c29
  obtain ⟨y275, hy275⟩ : ∃ y_ : List Int, y_ = (x273000_1.set ((rd l0 x20_1) : Int).toNat x20_1) := ⟨_, rfl⟩
  replace H : (decls_inverse.l0 k1 a1 l0 (l0.length : Int) (wrap64 (x20_1 + 1)) y275) = some (r1, r2) := by (rw [hy275]; with_reducible exact H)
  have Ny275 := Aside0.mk hy275
  clear hy275
  have H' := Aside0.mk H
  clear H
  have p273 : 0 ≤ (x20_1 : Int) := of_decide_eq_true (by (with_reducible assumption))
  have q273 : x20_1 < (l0.length : Int) := of_decide_eq_true (by (with_reducible assumption))
  obtain ⟨ad273, e273, hx273_0⟩ := Kd.at_int HR0.out x20_1 p273 q273
  cases e273
  replace hx273_0 := pw_cell_below HB.out hx273_0
  replace p273 := eq_true p273
  replace q273 := eq_true q273
  have hnb35 := NB272_265.out
  have hnc35 := NB265_272.out
  have hcz36_0 : wr.cell? ⟨gb272, 0, none⟩ = some (u273000) := (blk_cell BK272.out 0).trans rfl
  have hfz36_0 := blk_frozen BK272.out 0
  obtain ⟨Ao37, co37, eo37⟩ := Kd.R_slice HO_273000.out
  subst eo37
  have p274 : 0 ≤ ((rd l0 x20_1) : Int) := of_decide_eq_true (by (with_reducible assumption))
  have q274 : (rd l0 x20_1) < (x273000_1.length : Int) := of_decide_eq_true (by (with_reducible assumption))
  obtain ⟨ad274, e274, hx274_0⟩ := Kd.at_int (Kd.R_reads' HO_273000.out).2.2 (rd l0 x20_1) p274 q274
  cases e274
  replace p274 := eq_true p274
  replace q274 := eq_true q274
  have p34 : 0 ≤ ((rd l0 x20_1) : Int) := of_decide_eq_true (by (with_reducible assumption))
  have q34 : ((rd l0 x20_1) : Int) < ((x273000_1.length : Int) : Int) := of_decide_eq_true (by (with_reducible assumption))
  obtain ⟨go34, co34, eo34, gb34, gl34, cl34, HG34⟩ := Kd.R_form HO_273000.out (by omega)
  (cases eo34)
  have GB34 := Aside0.mk gb34
  have GG34 := Aside0.mk HG34
  clear gb34 gl34 HG34
  (simp only [add_plain] at hx274_0)
  obtain ⟨hx34_0, hf34_0⟩ := Kd.R_celln 0 HO_273000.out ((rd l0 x20_1) : Int) p34 q34
  replace p34 := eq_true p34
  replace q34 := eq_true q34
  have HP38 := Kd.R_putg HO_273000.out ((rd l0 x20_1) : Int) x20_1
  go_wp2_with ((((with_reducible refine gate_store (t := 3) (p := 45) rfl ?_); refine store_event (t := 3) (p := 45) (v := ?vo_w39) (w1 := (wr.setCell ⟨go34, ((rd l0 x20_1) : Int).toNat, none⟩ (.int .i64 x20_1))) ?hg ?ho ?hn ?hr ?_; (case ho => rfl); (case hg => rfl); (case hn => rfl); (case hr => (go_simp; done)); intro w39 hw; have hg : wr.grownBy w39 (some go34) := (by rw [hw]; exact HP38.2); have hp_ : Kd.R (Kd.int .i64) 3 w39 w.heap.size (fun _ => True) (.slice (some ⟨go34, 0, none⟩) x273000_1.length co37) y275 := (by rw [hw, Ny275.out]; exact HP38.1); clear HP38; have n0_ := Aside0.mk (hp_); have n1_ := Aside0.mk (blk_grown (g := gb265) (o := .cells #[.slice none 0 0] 49 (0, 0)) (by exact BK265.out) hg (Kd.R_ne HO_273000.out BK265.out (by decide))); have n2_ := Aside0.mk (blk_grown (g := gb272) (o := .cells #[.slice (some ⟨go34, 0, none⟩) x273000_1.length co37] 49 (0, 0)) (by exact BK272.out) hg (Kd.R_ne HO_273000.out BK272.out (by decide))); have n3_ := Aside0.mk ((by rw [hw]; exact below_set (HB.out) GB34.out : Below w.heap.size w w39)); clear HO_273000; clear BK265; clear BK272; clear HB; have HO_273000 := n0_; have BK265 := n1_; have BK272 := n2_; have HB := n3_; clear n0_ n1_ n2_ n3_; clear hg hw hp_)))
  go_roundg k1
  case measure => have := HK1.out; omega
  case rel => exact ⟨(wrap64 (x20_1 + 1)), (y275), (.slice (some ⟨go34, 0, none⟩) x273000_1.length co37), (by (rfl)), H', ⟨by have := HK1.out; omega⟩, ⟨by exact HO_273000.out⟩, ⟨by exact BK265.out⟩, ⟨by exact BK272.out⟩, ⟨HB.out⟩⟩/-! ### decls_Pairs: function 15 -/
mutual
def decls_Pairs.j1 : Nat → List Int → Option ((List (S57)))
  | 0, _ => none
  | k + 1, x277000 => decls_Pairs.l0 k ([] : List (S57)) x277000 (x277000.length : Int) 0
def decls_Pairs.l0 : Nat → List (S57) → List Int → Int → Int → Option ((List (S57)))
  | 0, _, _, _, _ => none
  | k + 1, x8, x37, x38, x39 => if x39 < x38 then (if 0 ≤ x39 then (if x39 < (x37.length : Int) then (if (rd x37 x39) ≥ 0 then (if x8.length < 8796093022208 then (decls_Pairs.l0 k (x8 ++ [(⟨x39, rd x37 x39⟩ : S57)]) x37 x38 (wrap64 (x39 + 1))) else (none)) else (decls_Pairs.l0 k x8 x37 x38 (wrap64 (x39 + 1)))) else (none)) else (none)) else (some x8)
def decls_Pairs.j0 : Nat → List Int → Int → Bool → Option ((List (S57)))
  | 0, _, _, _ => none
  | k + 1, x1, x2, x23 => if x23 = true then (if 0 < (x1.length : Int) then ((decls_without.f k (rd x1 0) x2).bind fun t282 => (decls_Pairs.j1 k t282)) else (none)) else ((decls_without.f k x2 x2).bind fun t285 => (decls_Pairs.j1 k t285))
end
def decls_Pairs.f (k : Nat) (a0 : Int) (l1 : List Int) (a2 : Int) : Option ((List (S57))) := if a0 = 50 then ((decls_inverse.f k l1 a2).bind fun bt277 => (decls_Pairs.j1 k bt277.1)) else (if a0 = 51 then (decls_Pairs.j0 k l1 a2 ((l1.length : Int) == 1)) else (decls_Pairs.j0 k l1 a2 false))
theorem decls_Pairs.mono_l : ∀ k, (∀ y0, LeO (decls_Pairs.j1 k y0) (decls_Pairs.j1 (k + 1) y0)) ∧ (∀ y0 y1 y2 y3, LeO (decls_Pairs.l0 k y0 y1 y2 y3) (decls_Pairs.l0 (k + 1) y0 y1 y2 y3)) ∧ (∀ y0 y1 y2, LeO (decls_Pairs.j0 k y0 y1 y2) (decls_Pairs.j0 (k + 1) y0 y1 y2))
  | 0 => ⟨fun _ r h => by simp [decls_Pairs.j1] at h, fun _ _ _ _ r h => by simp [decls_Pairs.l0] at h, fun _ _ _ r h => by simp [decls_Pairs.j0] at h⟩
  | k + 1 => by
    obtain ⟨ih0, ih1, ih2⟩ := decls_Pairs.mono_l k
    refine ⟨?_, ?_, ?_⟩
    · intro y0
      unfold decls_Pairs.j1
      repeat' first | (with_reducible exact ih1 _ _ _ _)
    · intro y0 y1 y2 y3
      unfold decls_Pairs.l0
      repeat' first | (with_reducible exact ih1 _ _ _ _) | (with_reducible exact LeO.refl _) | (with_reducible refine LeO.ite ?_ ?_)
    · intro y0 y1 y2
      unfold decls_Pairs.j0
      repeat' first | (with_reducible exact ih0 _) | (with_reducible exact decls_without.mono _ _ _) | (with_reducible exact LeO.refl _) | (with_reducible refine LeO.ite ?_ ?_) | (with_reducible refine LeO.bind ?_ (fun _ => ?_))
theorem decls_Pairs.mono : ∀ a0 a1 a2 k, LeO (decls_Pairs.f k a0 a1 a2) (decls_Pairs.f (k + 1) a0 a1 a2) := by
  intro a0 a1 a2 k
  obtain ⟨ih0, ih1, ih2⟩ := decls_Pairs.mono_l k
  unfold decls_Pairs.f
  repeat' first | (with_reducible exact ih0 _) | (with_reducible exact ih2 _ _ _) | (with_reducible exact decls_inverse.mono _ _ _) | (with_reducible refine LeO.ite ?_ ?_) | (with_reducible refine LeO.bind ?_ (fun _ => ?_))
set_option maxHeartbeats 8000000 in
set_option maxRecDepth 100000 in
theorem decls_Pairs.calls (k : Nat) (a0 : Int) (A1 : Option Addr) (c1 : Nat) (l1 : List Int) (a2 : Int) (r : List (S57)) (w : World) (hr1 : Kd.C (Kd.int .i64) w A1 l1.length l1) (hc1 : l1.length ≤ c1) (h : decls_Pairs.f k a0 l1 a2 = some r) :
    Calls Try.prog 15 #[.int .i64 a0, .slice A1 l1.length c1, .int .i64 a2] w fun e w' => ∃ v0_ : Value, e = .returned (v0_) ∧ Kd.R k57 57 w' w.heap.size (fun _ => True) v0_ r ∧ Below w.heap.size w w' := by
  have hu49 := Try.underlying49
  have hu57 := Try.underlying57
  have HR1 := Aside0.mk hr1
  have HC1 := Aside0.mk hc1
  clear hr1 hc1
  have HB := Aside0.mk (Below.refl w.heap.size w)
  have H : (if a0 = 50 then ((decls_inverse.f k l1 a2).bind fun bt277 => (decls_Pairs.j1 k bt277.1)) else (if a0 = 51 then (decls_Pairs.j0 k l1 a2 ((l1.length : Int) == 1)) else (decls_Pairs.j0 k l1 a2 false))) = some r := h
  clear h
  have HC4 := Aside0.mk H
  clear H
  go_enter Try.func15, Try.ntmps15
  go_upto_block 0 with ((((with_reducible refine gate_dst (N := 7) rfl ?_); (try (refine gate_guard (by rfl) ?_; dsimp only)); refine box_event ?hg (N := 7) ?hd (cs := #[.slice none 0 0]) (t := 49) ?hr ?_; (case hd => rfl); (case hg => rfl); (case hr => (go_simp; done)); intro gb276 hg w5 hbox hb; have n0_ := Aside0.mk (below_step HB.out hb); have n1_ := Aside0.mk (hbox); have n2_ := Aside0.mk ((by rw [hg]; exact (below_size HB.out) : w.heap.size ≤ gb276)); have n3_ := Aside0.mk ((by rw [hg]; exact (below_size HB.out) : w.heap.size ≤ gb276)); clear HB; have HB := n0_; have BK276 := n1_; have GW276 := n2_; have GE276 := n3_; clear n0_ n1_ n2_ n3_; clear hb hbox hg)))
  (try simp only [Act.put, sa_, sz_, ss_])
  go_cut [] (fun wc => ∃ (kq : Nat) (x277000_3 : List Int) (u277000 : Value), Aside0 (decls_Pairs.j1 kq x277000_3 = some r) ∧ Aside0 (kq ≤ k) ∧ Aside0 (Kd.R (Kd.int .i64) 3 wc w.heap.size (fun _ => True) u277000 x277000_3) ∧ Aside0 (wc.heap[gb276]? = some (.cells #[u277000] 49 (0, 0))) ∧ Aside0 (Below w.heap.size w wc))
  case first =>
    have H := HC4.out
    clear HC4
    by_cases c6 : a0 = 50
    · rw [if_pos c6] at H
      have c6b0 : (a0 == 50) = true := beq_iff_eq.mpr c6
      have c6b1 : (a0 != 50) = false := bne_eq_false_iff_eq.mpr c6
      clear c6
      (skip)
      replace H := Option.bind_eq_some_iff.mp H
      obtain ⟨⟨t277, t280⟩, A70, H⟩ := H
      replace H : (decls_Pairs.j1 k t277) = some r := H
      have A7 := Aside0.mk A70
      clear A70
      have H' := Aside0.mk H
      clear H
      go_wp2_with ((((with_reducible refine gate_callee (f := 29) rfl ?_); refine goesL_ (some 20) rfl rfl Try.func29 (by kernel_rfl) rfl #[.slice A1 l1.length c1, .int .i64 a2] rfl (by (try simp only [List.map_toArray, List.map_cons, List.map_nil]); (rfl)) ?_; (with_reducible refine (decls_inverse.calls k _ _ l1 a2 t277 t280 _ ?side1 ?side2 A7.out).mono ?_); (case side1 => exact Kd.C_below HR1.out HB.out); (case side2 => exact HC1.out); rintro e w8 ⟨v278, rfl, ho0, hb⟩; refine ⟨_, rfl, ?_⟩; have n0_ := Aside0.mk (Kd.R_lower ho0 (below_size HB.out)); have n1_ := Aside0.mk (blk_below (g := gb276) (o := .cells #[.slice none 0 0] 49 (0, 0)) (by exact BK276.out) hb); have n2_ := Aside0.mk (below_step HB.out hb); clear BK276; clear HB; have HO279 := n0_; have BK276 := n1_; have HB := n2_; clear n0_ n1_ n2_; (try clear hb); (try clear ho0); obtain ⟨Ao9, co9, eo9⟩ := Kd.R_slice HO279.out; subst eo9; have hcz10_0 : w8.cell? ⟨gb276, 0, none⟩ = some (.slice none 0 0) := (blk_cell BK276.out 0).trans rfl; have hfz10_0 := blk_frozen BK276.out 0)))
      go_meet
      case rel => exact ⟨_, (t277), (.slice Ao9 t277.length co9), H', ⟨by (omega)⟩, ⟨by exact Kd.R_mono (Kd.R_far (p := ⟨gb276, 0, none⟩) (Kd.R_types HO279.out BK276.out (by decide)) (fun _ hk => hk.2) (.slice Ao9 t277.length co9)) (fun _ hk => trivial)⟩, ⟨by refine blk_put (cs := #[.slice none 0 0]) ?_ 0 _ rfl; exact BK276.out⟩, ⟨by repeat (with_reducible first | exact HB.out | refine below_set ?_ GE276.out)⟩⟩
    rw [if_neg c6] at H
    have c6b0 : (a0 == 50) = false := beq_eq_false_iff_ne.mpr c6
    have c6b1 : (a0 != 50) = true := bne_iff_ne.mpr c6
    (skip)
    have HC11 := Aside0.mk H
    clear H
    go_upto_region 5 with (fail)
    go_cut [23] (fun v23 wc => ∃ (kq : Nat) (x23_10 : Bool), v23 = .bool x23_10 ∧ Aside0 (decls_Pairs.j0 kq l1 a2 x23_10 = some r) ∧ Aside0 (kq ≤ k) ∧ Aside0 (wc.heap[gb276]? = some (.cells #[(.slice none 0 0)] 49 (0, 0))) ∧ Aside0 (Below w.heap.size w wc))
    case first =>
      have H := HC11.out
      clear HC11
      by_cases c12 : a0 = 51
      rotate_left
      · rw [if_neg c12] at H
        have c12b0 : (a0 == 51) = false := beq_eq_false_iff_ne.mpr c12
        have c12b1 : (a0 != 51) = true := bne_iff_ne.mpr c12
        (skip)
        have H' := Aside0.mk H
        clear H
        go_wp2
        go_meet
        case rel => exact ⟨_, (false), (by (rfl)), H', ⟨by (omega)⟩, ⟨by exact BK276.out⟩, ⟨HB.out⟩⟩
      rw [if_pos c12] at H
      have c12b0 : (a0 == 51) = true := beq_iff_eq.mpr c12
      have c12b1 : (a0 != 51) = false := bne_eq_false_iff_eq.mpr c12
      clear c12
      (skip)
      have H' := Aside0.mk H
      clear H
      go_wp2
      go_meet
      case rel => exact ⟨_, (((l1.length : Int) == 1)), (by (rfl)), H', ⟨by (omega)⟩, ⟨by exact BK276.out⟩, ⟨HB.out⟩⟩
    clear HC11
    try clear c6
    try clear c6b0
    try clear c6b1
    obtain ⟨kq, x23_10, rfl, HA, HJ10, BK276, HB⟩ := hcut
    rcases kq with _ | kj10
    · exact absurd HA.out (by simp [decls_Pairs.j0])
    have H := HA.out
    clear HA
    simp only [decls_Pairs.j0] at H
    by_cases c13 : x23_10 = true
    rotate_left
    · replace c13 := Bool.eq_false_iff.mpr c13
      subst c13
      have H1 : ((decls_without.f kj10 a2 a2).bind fun t285 => (decls_Pairs.j1 kj10 t285)) = some r := by rw [if_neg (show ¬ (false = true) by decide)] at H; exact H
      clear H
      have H := H1
      clear H1
      replace H := Option.bind_eq_some_iff.mp H
      obtain ⟨t285, A190, H⟩ := H
      replace H : (decls_Pairs.j1 kj10 t285) = some r := H
      have A19 := Aside0.mk A190
      clear A190
      have H' := Aside0.mk H
      clear H
      go_wp2_with ((((with_reducible refine gate_callee (f := 25) rfl ?_); refine goesL_ (some 13) rfl rfl Try.func25 (by kernel_rfl) rfl #[.int .i64 a2, .int .i64 a2] rfl (by (try simp only [List.map_toArray, List.map_cons, List.map_nil]); (rfl)) ?_; (with_reducible refine (decls_without.calls kj10 a2 a2 t285 _ A19.out).mono ?_); rintro e w20 ⟨v286, rfl, ho0, hb⟩; refine ⟨_, rfl, ?_⟩; have n0_ := Aside0.mk (Kd.R_lower ho0 (below_size HB.out)); have n1_ := Aside0.mk (blk_below (g := gb276) (o := .cells #[.slice none 0 0] 49 (0, 0)) (by exact BK276.out) hb); have n2_ := Aside0.mk (below_step HB.out hb); clear BK276; clear HB; have HO287 := n0_; have BK276 := n1_; have HB := n2_; clear n0_ n1_ n2_; (try clear hb); (try clear ho0); obtain ⟨Ao21, co21, eo21⟩ := Kd.R_slice HO287.out; subst eo21; have hcz22_0 : w20.cell? ⟨gb276, 0, none⟩ = some (.slice none 0 0) := (blk_cell BK276.out 0).trans rfl; have hfz22_0 := blk_frozen BK276.out 0)))
      go_meet
      case rel => exact ⟨_, (t285), (.slice Ao21 t285.length co21), H', ⟨by have := HJ10.out; (omega)⟩, ⟨by exact Kd.R_mono (Kd.R_far (p := ⟨gb276, 0, none⟩) (Kd.R_types HO287.out BK276.out (by decide)) (fun _ hk => hk.2) (.slice Ao21 t285.length co21)) (fun _ hk => trivial)⟩, ⟨by refine blk_put (cs := #[.slice none 0 0]) ?_ 0 _ rfl; exact BK276.out⟩, ⟨by repeat (with_reducible first | exact HB.out | refine below_set ?_ GE276.out)⟩⟩
    subst c13
    have H1 : (if 0 < (l1.length : Int) then ((decls_without.f kj10 (rd l1 0) a2).bind fun t282 => (decls_Pairs.j1 kj10 t282)) else (none)) = some r := by rw [if_pos rfl] at H; exact H
    clear H
    have H := H1
    clear H1
    by_cases c14 : 0 < (l1.length : Int)
    rotate_left
    · rw [if_neg c14] at H
      exact absurd H (by simp)
    rw [if_pos c14] at H
    have c14b0 : decide (0 < (l1.length : Int)) = true := decide_eq_true c14
    have c14b1 : decide (0 < l1.length) = true := decide_eq_true (by omega)
    clear c14
    replace H := Option.bind_eq_some_iff.mp H
    obtain ⟨t282, A150, H⟩ := H
    replace H : (decls_Pairs.j1 kj10 t282) = some r := H
    have A15 := Aside0.mk A150
    clear A150
    have H' := Aside0.mk H
    clear H
    have p281 : 0 ≤ (0 : Int) := (by omega)
    have q281 : 0 < (l1.length : Int) := of_decide_eq_true (by (with_reducible assumption))
    obtain ⟨ad281, e281, hx281_0⟩ := Kd.at_int HR1.out 0 p281 q281
    cases e281
    have qi281 : (0 < l1.length) = True := eq_true (by omega)
    (try rw [show (0 : Int).toNat = 0 from rfl] at hx281_0)
    (try rw [Addr.add_zero'] at hx281_0)
    replace hx281_0 := pw_cell_below HB.out hx281_0
    replace p281 := eq_true p281
    replace q281 := eq_true q281
    go_wp2_with ((((with_reducible refine gate_callee (f := 25) rfl ?_); refine goesL_ (some 35) rfl rfl Try.func25 (by kernel_rfl) rfl #[.int .i64 (rd l1 0), .int .i64 a2] rfl (by (try simp only [List.map_toArray, List.map_cons, List.map_nil]); (rfl)) ?_; (with_reducible refine (decls_without.calls kj10 (rd l1 0) a2 t282 _ A15.out).mono ?_); rintro e w16 ⟨v283, rfl, ho0, hb⟩; refine ⟨_, rfl, ?_⟩; have n0_ := Aside0.mk (Kd.R_lower ho0 (below_size HB.out)); have n1_ := Aside0.mk (blk_below (g := gb276) (o := .cells #[.slice none 0 0] 49 (0, 0)) (by exact BK276.out) hb); have n2_ := Aside0.mk (below_step HB.out hb); clear BK276; clear HB; have HO284 := n0_; have BK276 := n1_; have HB := n2_; clear n0_ n1_ n2_; (try clear hb); (try clear ho0); obtain ⟨Ao17, co17, eo17⟩ := Kd.R_slice HO284.out; subst eo17; have hcz18_0 : w16.cell? ⟨gb276, 0, none⟩ = some (.slice none 0 0) := (blk_cell BK276.out 0).trans rfl; have hfz18_0 := blk_frozen BK276.out 0)))
    go_meet
    case rel => exact ⟨_, (t282), (.slice Ao17 t282.length co17), H', ⟨by have := HJ10.out; (omega)⟩, ⟨by exact Kd.R_mono (Kd.R_far (p := ⟨gb276, 0, none⟩) (Kd.R_types HO284.out BK276.out (by decide)) (fun _ hk => hk.2) (.slice Ao17 t282.length co17)) (fun _ hk => trivial)⟩, ⟨by refine blk_put (cs := #[.slice none 0 0]) ?_ 0 _ rfl; exact BK276.out⟩, ⟨by repeat (with_reducible first | exact HB.out | refine below_set ?_ GE276.out)⟩⟩
  clear HC4
  obtain ⟨kq, x277000_3, u277000, HA, HJ3, HO_277000, BK276, HB⟩ := hcut
  rcases kq with _ | kj3
  · exact absurd HA.out (by simp [decls_Pairs.j1])
  have H := HA.out
  clear HA
  simp only [decls_Pairs.j1] at H
  have H' := Aside0.mk H
  clear H
  have hcz23_0 : wc.cell? ⟨gb276, 0, none⟩ = some (u277000) := (blk_cell BK276.out 0).trans rfl
  have hfz23_0 := blk_frozen BK276.out 0
  obtain ⟨Ao24, co24, eo24⟩ := Kd.R_slice HO_277000.out
  subst eo24
  go_wp2
  go_loopg [8, 39] kj3 (fun kq v8 v39 w' => ∃ (x8_2 : List (S57)) (x39_2 : Int), v39 = .int .i64 x39_2 ∧ Aside0 (decls_Pairs.l0 kq x8_2 x277000_3 (x277000_3.length : Int) x39_2 = some r) ∧ Aside0 (kq ≤ kj3) ∧ Aside0 (Kd.R k57 57 w' w.heap.size (fun _ => True) v8 x8_2) ∧ Aside0 (Kd.R (Kd.int .i64) 3 w' w.heap.size (fun _ => True) (.slice Ao24 x277000_3.length co24) x277000_3) ∧ Aside0 (Kd.R (Kd.int .i64) 3 w' w.heap.size (fun _ => True) (.slice Ao24 x277000_3.length co24) x277000_3) ∧ Aside0 (w'.heap[gb276]? = some (.cells #[(.slice Ao24 x277000_3.length co24)] 49 (0, 0))) ∧ Aside0 (Below w.heap.size w w'))
  case atStart => exact ⟨(([] : List (S57))), (0), (by (rfl)), H', ⟨Nat.le_refl _⟩, ⟨by (exact Kd.R_nil _ _ _ _ _)⟩, ⟨by exact HO_277000.out⟩, ⟨by exact HO_277000.out⟩, ⟨by exact BK276.out⟩, ⟨HB.out⟩⟩
  clear H'
  try clear hcz23_0
  try clear hfz23_0
  obtain ⟨x8_2, x39_2, rfl, HA, HK2, HO_8, HO_37, HO_277000, BK276, HB⟩ := hrel
  rcases gk with _ | k2
  · exact absurd HA.out (by simp [decls_Pairs.l0])
  have H := HA.out
  clear HA
  simp only [decls_Pairs.l0] at H
  by_cases c25 : x39_2 < (x277000_3.length : Int)
  rotate_left
  · rw [if_neg c25] at H
    have c25b0 : decide (x39_2 < (x277000_3.length : Int)) = false := decide_eq_false c25
    clear c25
    obtain rfl := Option.some.inj H
    go_wp2
    go_ret
    exact ⟨_, by (rfl), by exact HO_8.out, HB.out⟩

  rw [if_pos c25] at H
  have c25b0 : decide (x39_2 < (x277000_3.length : Int)) = true := decide_eq_true c25
  clear c25
  by_cases c26 : 0 ≤ x39_2
  rotate_left
  · rw [if_neg c26] at H
    exact absurd H (by simp)
  rw [if_pos c26] at H
  have c26b0 : decide (0 ≤ x39_2) = true := decide_eq_true c26
  clear c26
  by_cases c27 : x39_2 < (x277000_3.length : Int)
  rotate_left
  · rw [if_neg c27] at H
    exact absurd H (by simp)
  rw [if_pos c27] at H
  have c27b0 : decide (x39_2 < (x277000_3.length : Int)) = true := decide_eq_true c27
  clear c27
  by_cases c28 : (rd x277000_3 x39_2) ≥ 0
  rotate_left
  · rw [if_neg c28] at H
    have c28b0 : decide (0 ≤ (rd x277000_3 x39_2)) = false := decide_eq_false c28
    clear c28
    have H' := Aside0.mk H
    clear H
    have p288 : 0 ≤ (x39_2 : Int) := of_decide_eq_true (by (with_reducible assumption))
    have q288 : x39_2 < (x277000_3.length : Int) := of_decide_eq_true (by (with_reducible assumption))
    obtain ⟨ad288, e288, hx288_0⟩ := Kd.at_int (Kd.R_reads' HO_37.out).2.2 x39_2 p288 q288
    cases e288
    replace p288 := eq_true p288
    replace q288 := eq_true q288
    go_wp2
    go_roundg k2
    case measure => have := HJ3.out; have := HK2.out; omega
    case rel => exact ⟨(x8_2), (wrap64 (x39_2 + 1)), (by (rfl)), H', ⟨by have := HJ3.out; have := HK2.out; omega⟩, ⟨by exact HO_8.out⟩, ⟨by exact HO_37.out⟩, ⟨by exact HO_277000.out⟩, ⟨by exact BK276.out⟩, ⟨HB.out⟩⟩
  rw [if_pos c28] at H
  have c28b0 : decide (0 ≤ (rd x277000_3 x39_2)) = true := decide_eq_true c28
  clear c28
  by_cases c29 : x8_2.length < 8796093022208
  rotate_left
  · rw [if_neg c29] at H
    exact absurd H (by simp)
  rw [if_pos c29] at H
  have LMc29 := Aside0.mk c29
  clear c29
  obtain ⟨y289, hy289⟩ : ∃ y_ : List (S57), y_ = (x8_2 ++ [(⟨x39_2, rd x277000_3 x39_2⟩ : S57)]) := ⟨_, rfl⟩
  replace H : (decls_Pairs.l0 k2 y289 x277000_3 (x277000_3.length : Int) (wrap64 (x39_2 + 1))) = some r := by (rw [hy289]; with_reducible exact H)
  have Ny289 := Aside0.mk hy289
  clear hy289
  have H' := Aside0.mk H
  clear H
  have p288 : 0 ≤ (x39_2 : Int) := of_decide_eq_true (by (with_reducible assumption))
  have q288 : x39_2 < (x277000_3.length : Int) := of_decide_eq_true (by (with_reducible assumption))
  obtain ⟨ad288, e288, hx288_0⟩ := Kd.at_int (Kd.R_reads' HO_37.out).2.2 x39_2 p288 q288
  cases e288
  replace p288 := eq_true p288
  replace q288 := eq_true q288
  go_wp2_with ((((with_reducible refine gate_builtin (b := .append) (xs := #[.tmp 46, .tmp 50]) rfl ?_); (try (refine gate_guard (by rfl) ?_; dsimp only)); at_builtin; refine Kd.R_append k57 (w0 := w) w.heap.size rfl (.tmp 46) (.tmp 50) 37 57 (.agg #[(.int .i64 0), (.int .i64 0)]) 16 rfl Try.underlying37 info57 rfl (by decide) (by omega) u8 x8_2 (⟨x39_2, rd x277000_3 x39_2⟩ : S57) [.int .i64 x39_2, .int .i64 (rd x277000_3 x39_2)] (fun _ => True) (fun _ => False) rfl rfl ?aP (fun _ hk => hk.elim) ?aF ?aO ?aB ?aS ?aL ?_; (case aP => exact k57_mkM _ _ _ (⟨x39_2, rd x277000_3 x39_2⟩ : S57)); (case aB => exact HB.out); (case aF => exact (fun _ _ => trivial)); (case aO => exact (by exact HO_8.out)); (case aS => exact (below_size HB.out)); (case aL => have := LMc29.out; omega); intro v290 w30 ho hb hg hat; rw [← Ny289.out] at ho; have n0_ := Aside0.mk (Kd.R_over' (by exact HO_37.out) (Kd.R_typed (by exact HO_8.out)) (by decide) hg); have n1_ := Aside0.mk (Kd.R_over' (by exact HO_277000.out) (Kd.R_typed (by exact HO_8.out)) (by decide) hg); have n2_ := Aside0.mk (blk_grown (g := gb276) (o := .cells #[.slice (some ad288) x277000_3.length co24] 49 (0, 0)) (by exact BK276.out) hg (Kd.R_ne HO_8.out BK276.out (by decide))); have n3_ := Aside0.mk (hb); have n4_ := Aside0.mk (ho); clear HO_37; clear HO_277000; clear BK276; clear HB; clear HO_8; have HO_37 := n0_; have HO_277000 := n1_; have BK276 := n2_; have HB := n3_; have HO291 := n4_; clear n0_ n1_ n2_ n3_ n4_; clear ho hb hg hat)))
  go_roundg k2
  case measure => have := HJ3.out; have := HK2.out; omega
  case rel => exact ⟨(y289), (wrap64 (x39_2 + 1)), (by (rfl)), H', ⟨by have := HJ3.out; have := HK2.out; omega⟩, ⟨by exact HO291.out⟩, ⟨by exact HO_37.out⟩, ⟨by exact HO_277000.out⟩, ⟨by exact BK276.out⟩, ⟨HB.out⟩⟩
end Go.Proofs.Ytgjmidpoebnieaa.PDm
