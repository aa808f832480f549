-- SLIM: a printed text of which the unused ways are cut off
-- PRINTED by print.py (a twelfth state) out of the translation. Not trusted: Lean checks it.
import Derived.Test.YtgjmidpoebnieaaPDmx0
import Derived.Test.YtgjmidpoebnieaaPDmx2
namespace Go.Proofs.Ytgjmidpoebnieaa.PDm
open Go.RowKit Go.Proofs.YtgjmidpoebnieaaW.PrintWords Go.Proofs.YtgjmidpoebnieaaW.PrintLast Go.Proofs.YtgjmidpoebnieaaW.PrintMore
attribute [local go_sem] max2_int min2_int max_two min_two max_three min_three max_four min_four   -- for this text's walks alone
set_option linter.unusedVariables false
set_option linter.unusedSimpArgs false

/-! ### decls_without: function 25 -/
def decls_without.l0 : Nat → Int → Int → Int → List Int → Option (List Int)
  | 0, _, _, _, _ => none
  | k + 1, x0, x7, x8, x118000 => if x8 < x7 then (if x8 < x0 then (if x118000.length < 17592186044416 then (decls_without.l0 k x0 x7 (wrap64 (x8 + 1)) (x118000 ++ [x8])) else (none)) else (if x8 = x0 then (if x118000.length < 17592186044416 then (decls_without.l0 k x0 x7 (wrap64 (x8 + 1)) (x118000 ++ [(-1)])) else (none)) else (if x118000.length < 17592186044416 then (decls_without.l0 k x0 x7 (wrap64 (x8 + 1)) (x118000 ++ [wrap64 (x8 - 1)])) else (none)))) else (some x118000)
def decls_without.f (k : Nat) (a0 : Int) (a1 : Int) : Option (List Int) := decls_without.l0 k a0 a1 0 ([] : List Int)
theorem decls_without.mono_l : ∀ k, (∀ y0 y1 y2 y3, LeO (decls_without.l0 k y0 y1 y2 y3) (decls_without.l0 (k + 1) y0 y1 y2 y3))
  | 0 => fun _ _ _ _ r h => by simp [decls_without.l0] at h
  | k + 1 => by
    have ih0 := decls_without.mono_l k
    · intro y0 y1 y2 y3
      unfold decls_without.l0
      repeat' first | (with_reducible exact ih0 _ _ _ _) | (with_reducible exact LeO.refl _) | (with_reducible refine LeO.ite ?_ ?_)
theorem decls_without.mono : ∀ a0 a1 k, LeO (decls_without.f k a0 a1) (decls_without.f (k + 1) a0 a1) := by
  intro a0 a1 k
  have ih0 := decls_without.mono_l k
  unfold decls_without.f
  repeat' first | (with_reducible exact ih0 _ _ _ _)
set_option maxHeartbeats 8000000 in
set_option maxRecDepth 100000 in
theorem decls_without.calls (k : Nat) (a0 : Int) (a1 : Int) (r : List Int) (w : World) (h : decls_without.f k a0 a1 = some r) :
    Calls Try.prog 25 #[.int .i64 a0, .int .i64 a1] w fun e w' => ∃ v0_ : Value, e = .returned (.agg #[v0_]) ∧ Kd.R (Kd.int .i64) 3 w' w.heap.size (fun _ => True) v0_ r ∧ Below w.heap.size w w' := by
  have hu49 := Try.underlying49
  have HB := Aside0.mk (Below.refl w.heap.size w)
  have H : (decls_without.l0 k a0 a1 0 ([] : List Int)) = some r := h
  clear h
  have H' := Aside0.mk H
  clear H
  go_enter Try.func25, Try.ntmps25
  go_wp2_with (first | ((with_reducible refine gate_dst (N := 4) rfl ?_); refine box_event ?hg (N := 4) ?hd (cs := #[.slice none 0 0]) (t := 49) ?hr ?_; (case hd => rfl); (case hg => rfl); (case hr => (go_simp; done)); intro gb116 hg w3 hbox hb; have n0_ := Aside0.mk (below_step HB.out hb); have n1_ := Aside0.mk (hbox); have n2_ := Aside0.mk ((by rw [hg]; exact (below_size HB.out) : w.heap.size ≤ gb116)); have n3_ := Aside0.mk ((by rw [hg]; exact (below_size HB.out) : w.heap.size ≤ gb116)); clear HB; have HB := n0_; have BK116 := n1_; have GW116 := n2_; have GE116 := n3_; clear n0_ n1_ n2_ n3_; clear hb hbox hg) | ((with_reducible refine gate_dst (N := 5) rfl ?_); refine box_event ?hg (N := 5) ?hd (cs := #[.slice none 0 0]) (t := 49) ?hr ?_; (case hd => rfl); (case hg => rfl); (case hr => (go_simp; done)); intro gb117 hg w4 hbox hb; have n0_ := Aside0.mk (blk_below (g := gb116) (o := .cells #[.slice none 0 0] 49 (0, 0)) (by exact BK116.out) hb); have n1_ := Aside0.mk (below_step HB.out hb); have n2_ := Aside0.mk (hbox); have n3_ := Aside0.mk ((by rw [hg]; exact (below_size HB.out) : w.heap.size ≤ gb117)); have n4_ := Aside0.mk ((by rw [hg]; exact (below_size HB.out) : w.heap.size ≤ gb117)); have n5_ := Aside0.mk ((by rw [hg]; exact Nat.ne_of_lt (blk_lt (g := gb116) (o := .cells #[.slice none 0 0] 49 (0, 0)) (by exact BK116.out)) : gb116 ≠ gb117)); have n6_ := Aside0.mk ((by rw [hg]; exact Nat.ne_of_gt (blk_lt (g := gb116) (o := .cells #[.slice none 0 0] 49 (0, 0)) (by exact BK116.out)) : gb117 ≠ gb116)); clear BK116; clear HB; have BK116 := n0_; have HB := n1_; have BK117 := n2_; have GW117 := n3_; have GE117 := n4_; have NB116_117 := n5_; have NB117_116 := n6_; clear n0_ n1_ n2_ n3_ n4_ n5_ n6_; clear hb hbox hg))
  go_loopg [8] k (fun kq v8 w' => ∃ (x8_1 : Int) (x118000_1 : List Int) (u118000 : Value), v8 = .int .i64 x8_1 ∧ Aside0 (decls_without.l0 kq a0 a1 x8_1 x118000_1 = some r) ∧ Aside0 (kq ≤ k) ∧ Aside0 (Kd.R (Kd.int .i64) 3 w' w.heap.size (fun _ => True) u118000 x118000_1) ∧ Aside0 (w'.heap[gb116]? = some (.cells #[(.slice none 0 0)] 49 (0, 0))) ∧ Aside0 (w'.heap[gb117]? = some (.cells #[u118000] 49 (0, 0))) ∧ Aside0 (Below w.heap.size w w'))
  case atStart => exact ⟨(0), ([] : List Int), (.slice none 0 0), (by (rfl)), H', ⟨Nat.le_refl _⟩, ⟨by (exact Kd.R_nil _ _ _ _ _)⟩, ⟨by exact BK116.out⟩, ⟨by exact BK117.out⟩, ⟨HB.out⟩⟩
  clear H'
  obtain ⟨x8_1, x118000_1, u118000, rfl, HA, HK1, HO_118000, BK116, BK117, HB⟩ := hrel
  rcases gk with _ | k1
  · exact absurd HA.out (by simp [decls_without.l0])
  have H := HA.out
  clear HA
  simp only [decls_without.l0] at H
  by_cases c5 : x8_1 < a1
  rotate_left
  · rw [if_neg c5] at H
    have c5b0 : decide (x8_1 < a1) = false := decide_eq_false c5
    clear c5
    obtain rfl := Option.some.inj H
    have hnb26 := NB117_116.out
    have hnc26 := NB116_117.out
    have hcz27_0 : wr.cell? ⟨gb117, 0, none⟩ = some (u118000) := (blk_cell BK117.out 0).trans rfl
    have hfz27_0 := blk_frozen BK117.out 0
    obtain ⟨Ao28, co28, eo28⟩ := Kd.R_slice HO_118000.out
    subst eo28
    have hcz29_0 : wr.cell? ⟨gb116, 0, none⟩ = some (.slice none 0 0) := (blk_cell BK116.out 0).trans rfl
    have hfz29_0 := blk_frozen BK116.out 0
    go_wp2
    refine bodyPost_ret (results_cell_row rfl _ _ gb116 49 #[.slice Ao28 x118000_1.length co28] (0, 0) _ rfl (by refine blk_put (cs := #[.slice none 0 0]) ?_ 0 _ rfl; exact BK116.out) Try.underlying49 rfl (by kernel_rfl)) rfl ?_
    exact ⟨_, by (rfl), by exact Kd.R_mono (Kd.R_far (p := ⟨gb116, 0, none⟩) (Kd.R_types HO_118000.out BK116.out (by decide)) (fun _ hk => hk.2) (.slice Ao28 x118000_1.length co28)) (fun _ hk => trivial), by repeat (with_reducible first | exact HB.out | refine below_set ?_ GE116.out)⟩

  rw [if_pos c5] at H
  have c5b0 : decide (x8_1 < a1) = true := decide_eq_true c5
  clear c5
  by_cases c6 : x8_1 < a0
  · rw [if_pos c6] at H
    have c6b0 : decide (x8_1 < a0) = true := decide_eq_true c6
    clear c6
    by_cases c7 : x118000_1.length < 17592186044416
    rotate_left
    · rw [if_neg c7] at H
      exact absurd H (by simp)
    rw [if_pos c7] at H
    have LMc7 := Aside0.mk c7
    clear c7
    obtain ⟨y118, hy118⟩ : ∃ y_ : List Int, y_ = (x118000_1 ++ [x8_1]) := ⟨_, rfl⟩
    replace H : (decls_without.l0 k1 a0 a1 (wrap64 (x8_1 + 1)) y118) = some r := by (rw [hy118]; with_reducible exact H)
    have Ny118 := Aside0.mk hy118
    clear hy118
    have H' := Aside0.mk H
    clear H
    have hnb8 := NB117_116.out
    have hnc8 := NB116_117.out
    have hcz9_0 : wr.cell? ⟨gb117, 0, none⟩ = some (u118000) := (blk_cell BK117.out 0).trans rfl
    have hfz9_0 := blk_frozen BK117.out 0
    go_wp2_with ((((with_reducible refine gate_builtin (b := .append) (xs := #[.tmp 23, .tmp 25]) rfl ?_); at_builtin; refine Kd.R_append (Kd.int .i64) (w0 := w) w.heap.size rfl (.tmp 23) (.tmp 25) 25 3 (.int .i64 0) 8 rfl Try.underlying25 info3 rfl (by decide) (by omega) u118000 x118000_1 x8_1 [.int .i64 x8_1] (fun _ => True) (fun _ => False) rfl rfl ?aP (fun _ hk => hk.elim) ?aF ?aO ?aB ?aS ?aL ?_; (case aP => exact rfl); (case aB => exact HB.out); (case aF => exact (fun _ _ => trivial)); (case aO => exact (by exact HO_118000.out)); (case aS => exact (below_size HB.out)); (case aL => have := LMc7.out; omega); intro v119 w10 ho hb hg hat; rw [← Ny118.out] at ho; have n0_ := Aside0.mk (blk_grown (g := gb116) (o := .cells #[.slice none 0 0] 49 (0, 0)) (by exact BK116.out) hg (Kd.R_ne HO_118000.out BK116.out (by decide))); have n1_ := Aside0.mk (blk_grown (g := gb117) (o := .cells #[u118000] 49 (0, 0)) (by exact BK117.out) hg (Kd.R_ne HO_118000.out BK117.out (by decide))); have n2_ := Aside0.mk (hb); have n3_ := Aside0.mk (ho); clear BK116; clear BK117; clear HB; clear HO_118000; have BK116 := n0_; have BK117 := n1_; have HB := n2_; have HO120 := n3_; clear n0_ n1_ n2_ n3_; clear ho hb hg hat; obtain ⟨Ao11, co11, eo11⟩ := Kd.R_slice HO120.out; subst eo11; have hcz12_0 : w10.cell? ⟨gb117, 0, none⟩ = some (u118000) := (blk_cell BK117.out 0).trans rfl; have hfz12_0 := blk_frozen BK117.out 0)))
    go_roundg k1
    case measure => have := HK1.out; omega
    case rel => exact ⟨(wrap64 (x8_1 + 1)), (y118), (.slice Ao11 y118.length co11), (by (rfl)), H', ⟨by have := HK1.out; omega⟩, ⟨by exact Kd.R_mono (Kd.R_far (p := ⟨gb117, 0, none⟩) (Kd.R_types HO120.out BK117.out (by decide)) (fun _ hk => hk.2) (.slice Ao11 y118.length co11)) (fun _ hk => trivial)⟩, ⟨by refine blk_far ?_ NB116_117.out _; exact BK116.out⟩, ⟨by refine blk_put (cs := #[u118000]) ?_ 0 _ rfl; exact BK117.out⟩, ⟨by repeat (with_reducible first | exact HB.out | refine below_set ?_ GE117.out)⟩⟩
  rw [if_neg c6] at H
  have c6b0 : decide (x8_1 < a0) = false := decide_eq_false c6
  clear c6
  by_cases c13 : x8_1 = a0
  · rw [if_pos c13] at H
    have c13b0 : (x8_1 == a0) = true := beq_iff_eq.mpr c13
    have c13b1 : (x8_1 != a0) = false := bne_eq_false_iff_eq.mpr c13
    clear c13
    by_cases c14 : x118000_1.length < 17592186044416
    rotate_left
    · rw [if_neg c14] at H
      exact absurd H (by simp)
    rw [if_pos c14] at H
    have LMc14 := Aside0.mk c14
    clear c14
    obtain ⟨y121, hy121⟩ : ∃ y_ : List Int, y_ = (x118000_1 ++ [(-1)]) := ⟨_, rfl⟩
    replace H : (decls_without.l0 k1 a0 a1 (wrap64 (x8_1 + 1)) y121) = some r := by (rw [hy121]; with_reducible exact H)
    have Ny121 := Aside0.mk hy121
    clear hy121
    have H' := Aside0.mk H
    clear H
    have hnb15 := NB117_116.out
    have hnc15 := NB116_117.out
    have hcz16_0 : wr.cell? ⟨gb117, 0, none⟩ = some (u118000) := (blk_cell BK117.out 0).trans rfl
    have hfz16_0 := blk_frozen BK117.out 0
    go_wp2_with ((((with_reducible refine gate_builtin (b := .append) (xs := #[.tmp 33, .tmp 34]) rfl ?_); at_builtin; refine Kd.R_append (Kd.int .i64) (w0 := w) w.heap.size rfl (.tmp 33) (.tmp 34) 25 3 (.int .i64 0) 8 rfl Try.underlying25 info3 rfl (by decide) (by omega) u118000 x118000_1 (-1) [.int .i64 (-1)] (fun _ => True) (fun _ => False) rfl rfl ?aP (fun _ hk => hk.elim) ?aF ?aO ?aB ?aS ?aL ?_; (case aP => exact rfl); (case aB => exact HB.out); (case aF => exact (fun _ _ => trivial)); (case aO => exact (by exact HO_118000.out)); (case aS => exact (below_size HB.out)); (case aL => have := LMc14.out; omega); intro v122 w17 ho hb hg hat; rw [← Ny121.out] at ho; have n0_ := Aside0.mk (blk_grown (g := gb116) (o := .cells #[.slice none 0 0] 49 (0, 0)) (by exact BK116.out) hg (Kd.R_ne HO_118000.out BK116.out (by decide))); have n1_ := Aside0.mk (blk_grown (g := gb117) (o := .cells #[u118000] 49 (0, 0)) (by exact BK117.out) hg (Kd.R_ne HO_118000.out BK117.out (by decide))); have n2_ := Aside0.mk (hb); have n3_ := Aside0.mk (ho); clear BK116; clear BK117; clear HB; clear HO_118000; have BK116 := n0_; have BK117 := n1_; have HB := n2_; have HO123 := n3_; clear n0_ n1_ n2_ n3_; clear ho hb hg hat; obtain ⟨Ao18, co18, eo18⟩ := Kd.R_slice HO123.out; subst eo18; have hcz19_0 : w17.cell? ⟨gb117, 0, none⟩ = some (u118000) := (blk_cell BK117.out 0).trans rfl; have hfz19_0 := blk_frozen BK117.out 0)))
    go_roundg k1
    case measure => have := HK1.out; omega
    case rel => exact ⟨(wrap64 (x8_1 + 1)), (y121), (.slice Ao18 y121.length co18), (by (rfl)), H', ⟨by have := HK1.out; omega⟩, ⟨by exact Kd.R_mono (Kd.R_far (p := ⟨gb117, 0, none⟩) (Kd.R_types HO123.out BK117.out (by decide)) (fun _ hk => hk.2) (.slice Ao18 y121.length co18)) (fun _ hk => trivial)⟩, ⟨by refine blk_far ?_ NB116_117.out _; exact BK116.out⟩, ⟨by refine blk_put (cs := #[u118000]) ?_ 0 _ rfl; exact BK117.out⟩, ⟨by repeat (with_reducible first | exact HB.out | refine below_set ?_ GE117.out)⟩⟩
  rw [if_neg c13] at H
  have c13b0 : (x8_1 == a0) = false := beq_eq_false_iff_ne.mpr c13
  have c13b1 : (x8_1 != a0) = true := bne_iff_ne.mpr c13
  by_cases c20 : x118000_1.length < 17592186044416
  rotate_left
  · rw [if_neg c20] at H
    exact absurd H (by simp)
  rw [if_pos c20] at H
  have LMc20 := Aside0.mk c20
  clear c20
  obtain ⟨y124, hy124⟩ : ∃ y_ : List Int, y_ = (x118000_1 ++ [wrap64 (x8_1 - 1)]) := ⟨_, rfl⟩
  replace H : (decls_without.l0 k1 a0 a1 (wrap64 (x8_1 + 1)) y124) = some r := by (rw [hy124]; with_reducible exact H)
  have Ny124 := Aside0.mk hy124
  clear hy124
  have H' := Aside0.mk H
  clear H
  have hnb21 := NB117_116.out
  have hnc21 := NB116_117.out
  have hcz22_0 : wr.cell? ⟨gb117, 0, none⟩ = some (u118000) := (blk_cell BK117.out 0).trans rfl
  have hfz22_0 := blk_frozen BK117.out 0
  go_wp2_with ((((with_reducible refine gate_builtin (b := .append) (xs := #[.tmp 12, .tmp 15]) rfl ?_); at_builtin; refine Kd.R_append (Kd.int .i64) (w0 := w) w.heap.size rfl (.tmp 12) (.tmp 15) 25 3 (.int .i64 0) 8 rfl Try.underlying25 info3 rfl (by decide) (by omega) u118000 x118000_1 (wrap64 (x8_1 - 1)) [.int .i64 (wrap64 (x8_1 - 1))] (fun _ => True) (fun _ => False) rfl rfl ?aP (fun _ hk => hk.elim) ?aF ?aO ?aB ?aS ?aL ?_; (case aP => exact rfl); (case aB => exact HB.out); (case aF => exact (fun _ _ => trivial)); (case aO => exact (by exact HO_118000.out)); (case aS => exact (below_size HB.out)); (case aL => have := LMc20.out; omega); intro v125 w23 ho hb hg hat; rw [← Ny124.out] at ho; have n0_ := Aside0.mk (blk_grown (g := gb116) (o := .cells #[.slice none 0 0] 49 (0, 0)) (by exact BK116.out) hg (Kd.R_ne HO_118000.out BK116.out (by decide))); have n1_ := Aside0.mk (blk_grown (g := gb117) (o := .cells #[u118000] 49 (0, 0)) (by exact BK117.out) hg (Kd.R_ne HO_118000.out BK117.out (by decide))); have n2_ := Aside0.mk (hb); have n3_ := Aside0.mk (ho); clear BK116; clear BK117; clear HB; clear HO_118000; have BK116 := n0_; have BK117 := n1_; have HB := n2_; have HO126 := n3_; clear n0_ n1_ n2_ n3_; clear ho hb hg hat; obtain ⟨Ao24, co24, eo24⟩ := Kd.R_slice HO126.out; subst eo24; have hcz25_0 : w23.cell? ⟨gb117, 0, none⟩ = some (u118000) := (blk_cell BK117.out 0).trans rfl; have hfz25_0 := blk_frozen BK117.out 0)))
  go_roundg k1
  case measure => have := HK1.out; omega
  case rel => exact ⟨(wrap64 (x8_1 + 1)), (y124), (.slice Ao24 y124.length co24), (by (rfl)), H', ⟨by have := HK1.out; omega⟩, ⟨by exact Kd.R_mono (Kd.R_far (p := ⟨gb117, 0, none⟩) (Kd.R_types HO126.out BK117.out (by decide)) (fun _ hk => hk.2) (.slice Ao24 y124.length co24)) (fun _ hk => trivial)⟩, ⟨by refine blk_far ?_ NB116_117.out _; exact BK116.out⟩, ⟨by refine blk_put (cs := #[u118000]) ?_ 0 _ rfl; exact BK117.out⟩, ⟨by repeat (with_reducible first | exact HB.out | refine below_set ?_ GE117.out)⟩⟩
-- NOT PRINTED: function 48 (api_Term_48)

-- NOT PRINTED: function 36 (api_Term_36)

/-! ### decls_names: function 26 (given) -/
/-- the first place in a list at which 'g' says so; none: -1 -/
def decls_names.idx (g : S24 → Option Bool) : List S24 → Int → Option Int
  | [], _ => some (-1)
  | x :: xs, i => (g x).bind fun b => if b = true then some i else decls_names.idx g xs (i + 1)
def decls_names.g : Nat → S24 → Int → Option Bool
  | 0, _, _ => none
  | k + 1, x, n => if x.f3.length < 1000000000 then (decls_named.f k x.f0 x.f1 x.f2 x.f3 x.f4 x.f5).bind fun m => if m = n then some true else (decls_names.idx (fun y => decls_names.g k y n) x.f3 0).bind fun i => some (decide (0 ≤ i)) else none
def decls_names.f (k : Nat) (a0 a1 : Int) (a2 : ByteArray) (a3 : List S24) (a4 a5 : Int) (n : Int) : Option Bool := decls_names.g k ⟨a0, a1, a2, a3, a4, a5⟩ n
theorem decls_names.idx_mono {g h : S24 → Option Bool} (hg : ∀ x, LeO (g x) (h x)) : ∀ xs i, LeO (decls_names.idx g xs i) (decls_names.idx h xs i)
  | [], _ => LeO.refl _
  | x :: xs, i => LeO.bind (hg x) fun b => LeO.ite (LeO.refl _) (decls_names.idx_mono hg xs (i + 1))
theorem decls_names.g_mono : ∀ x n k, LeO (decls_names.g k x n) (decls_names.g (k + 1) x n)
  | x, n, 0 => fun r h => by simp [decls_names.g] at h
  | x, n, k + 1 => by
    rw [decls_names.g, decls_names.g]
    exact LeO.ite (LeO.bind (decls_named.mono _ _ _ _ _ _ k) fun m => LeO.ite (LeO.refl _) (LeO.bind (decls_names.idx_mono (fun y => decls_names.g_mono y n k) _ _) fun i => LeO.refl _)) (LeO.refl _)
theorem decls_names.mono : ∀ a0 a1 a2 a3 a4 a5 n k, LeO (decls_names.f k a0 a1 a2 a3 a4 a5 n) (decls_names.f (k + 1) a0 a1 a2 a3 a4 a5 n) := fun a0 a1 a2 a3 a4 a5 n k => decls_names.g_mono _ _ _
theorem decls_names.idx_ge {g : S24 → Option Bool} : ∀ xs i r, 0 ≤ i → decls_names.idx g xs i = some r → r = -1 ∨ 0 ≤ r
  | [], i, r, _, h => .inl (Option.some.inj h).symm
  | x :: xs, i, r, h0, h => by
    obtain ⟨b, _, h⟩ := Option.bind_eq_some_iff.mp h
    cases b with
    | true => exact .inr (by obtain rfl := Option.some.inj h; exact h0)
    | false => exact decls_names.idx_ge xs (i + 1) r (by omega) h
set_option maxHeartbeats 4000000 in
set_option maxRecDepth 100000 in
theorem decls_names.index (g : S24 → Option Bool) (p : Addr) (n : Int)
    (hF : ∀ (y : S24) (A : Option Addr) (c : Nat) (r : Bool) (W : World), W.cell? p = some (.int .i64 n) → Kd.C k24 W A y.f3.length y.f3 → y.f3.length ≤ c → g y = some r →
      Calls Try.prog 37 #[.agg #[.int .i64 y.f0, .int .i64 y.f1, .string y.f2, .slice A y.f3.length c, .int .i64 y.f4, .int .i64 y.f5], .pointer (some p)] W fun e W' => e = .returned (.bool r) ∧ Below W.heap.size W W')
    (A : Option Addr) (c : Nat) (l : List S24) (r : Int) (w : World) (hp : w.cell? p = some (.int .i64 n)) (hr : Kd.C k24 w A l.length l) (hc : l.length ≤ c) (hl : l.length < 1000000000) (h : decls_names.idx g l 0 = some r) :
    Calls Try.prog 48 #[.slice A l.length c, .func (.func 37) #[] #[.pointer (some p)]] w fun e w' => e = .returned (.int .i64 r) ∧ Below w.heap.size w w' := by
  have hu := Try.underlying24
  have HR := Aside0.mk hr
  have HF := Aside0.mk hF
  have HP := Aside0.mk hp
  have HL := Aside0.mk hl
  have H := Aside0.mk h
  clear hr hF hp h hl
  go_enter Try.func48, Try.ntmps48
  go_wp2
  go_loopg [8] l.length (fun q v8 w' => ∃ j : Nat, v8 = .int .i64 (j : Int) ∧ j + q = l.length ∧ Aside0 (decls_names.idx g (l.drop j) (j : Int) = some r) ∧ Aside0 (Below w.heap.size w w'))
  case atStart => exact ⟨0, rfl, by omega, H, ⟨Below.refl _ _⟩⟩
  case round =>
    clear H
    obtain ⟨j, rfl, hjq, HE, HB⟩ := hrel
    cases gk with
    | zero =>
      obtain rfl : j = l.length := by omega
      have hd : decide ((l.length : Int) < (l.length : Int)) = false := by simp
      have h1 := HE.out
      rw [List.drop_length] at h1
      obtain rfl : -1 = r := Option.some.inj h1
      clear h1 HE
      go_wp2
      go_ret
      exact ⟨rfl, HB.out⟩
    | succ q =>
      have hjn : j < l.length := by omega
      have hd : decide ((j : Int) < (l.length : Int)) = true := decide_eq_true (by omega)
      have p0 : 0 ≤ (j : Int) := by omega
      have p1 : (j : Int) < (l.length : Int) := by omega
      have h1 := HE.out
      rw [List.drop_eq_getElem_cons hjn, decls_names.idx] at h1
      obtain ⟨b, hb, h5⟩ := Option.bind_eq_some_iff.mp h1
      clear h1
      obtain ⟨ad, A3, c3, e0, m0, m1, m2, m3, m4, m5, hl3, hc3⟩ := at_T24 (Kd.C_below HR.out HB.out) (j : Int) p0 p1
      have hX : rd_T24 l (j : Int) = l[j] := by unfold rd_T24; simp [List.getD_eq_getElem?_getD, List.getElem?_eq_getElem hjn]
      rw [hX] at m0 m1 m2 m3 m4 m5 hl3 hc3
      clear hX
      generalize l[j] = X at *
      subst e0
      rw [Int.toNat_natCast] at m0 m1 m2 m3 m4 m5
      have HC := Aside0.mk hb
      have HC3 := Aside0.mk hc3
      have HL3 := Aside0.mk hl3
      have H1 := Aside0.mk h5
      clear h5 hb hc3 hl3 HE
      have hw : IntKind.i64.wrap ((j : Int) + 1) = ((j + 1 : Nat) : Int) := by
        have := HL.out
        rw [i64_w]
        unfold Go.RowKit.wrap64
        omega
      cases b with
      | true =>
        have h2 := H1.out
        rw [if_pos rfl] at h2
        obtain rfl := Option.some.inj h2
        clear h2 H1
        go_wp2_with (go_at_call 37; (with_reducible refine (HF.out X A3 c3 true _ (pw_cell_below (below_step HB.out (by with_reducible repeat (exact Below.refl _ _))) HP.out) (Kd.C_below HC3.out (by with_reducible repeat (exact Below.refl _ _))) HL3.out HC.out).mono ?_); rintro e w5 ⟨rfl, hb5⟩; (have HB5 : Aside0 (Below w.heap.size w w5) := ⟨below_step HB.out (below_step (by with_reducible repeat (exact Below.refl _ _)) hb5)⟩); clear hb5)
        go_ret
        exact ⟨rfl, HB5.out⟩
      | false =>
        have h2 := H1.out
        rw [if_neg (by decide)] at h2
        have H2 := Aside0.mk h2
        clear h2 H1
        go_wp2_with (go_at_call 37; (with_reducible refine (HF.out X A3 c3 false _ (pw_cell_below (below_step HB.out (by with_reducible repeat (exact Below.refl _ _))) HP.out) (Kd.C_below HC3.out (by with_reducible repeat (exact Below.refl _ _))) HL3.out HC.out).mono ?_); rintro e w5 ⟨rfl, hb5⟩; (have HB5 : Aside0 (Below w.heap.size w w5) := ⟨below_step HB.out (below_step (by with_reducible repeat (exact Below.refl _ _)) hb5)⟩); clear hb5)
        go_roundg q
        case rel => exact ⟨j + 1, rfl, by omega, H2, HB5⟩
        case measure => omega
set_option maxHeartbeats 4000000 in
set_option maxRecDepth 100000 in
theorem decls_names.contains (g : S24 → Option Bool) (p : Addr) (n : Int)
    (hF : ∀ (y : S24) (A : Option Addr) (c : Nat) (r : Bool) (W : World), W.cell? p = some (.int .i64 n) → Kd.C k24 W A y.f3.length y.f3 → y.f3.length ≤ c → g y = some r →
      Calls Try.prog 37 #[.agg #[.int .i64 y.f0, .int .i64 y.f1, .string y.f2, .slice A y.f3.length c, .int .i64 y.f4, .int .i64 y.f5], .pointer (some p)] W fun e W' => e = .returned (.bool r) ∧ Below W.heap.size W W')
    (A : Option Addr) (c : Nat) (l : List S24) (r : Int) (w : World) (hp : w.cell? p = some (.int .i64 n)) (hr : Kd.C k24 w A l.length l) (hc : l.length ≤ c) (hl : l.length < 1000000000) (h : decls_names.idx g l 0 = some r) :
    Calls Try.prog 36 #[.slice A l.length c, .func (.func 37) #[] #[.pointer (some p)]] w fun e w' => e = .returned (.bool (decide (0 ≤ r))) ∧ Below w.heap.size w w' := by
  have HR := Aside0.mk hr
  have HF := Aside0.mk hF
  have HP := Aside0.mk hp
  have HL := Aside0.mk hl
  have HC := Aside0.mk hc
  have H := Aside0.mk h
  clear hr hF hp h hl hc
  go_enter Try.func36, Try.ntmps36
  go_wp2_with (go_at_call 48; (with_reducible refine (decls_names.index g p n HF.out A c l r _ HP.out HR.out HC.out HL.out H.out).mono ?_); rintro e w5 ⟨rfl, hb5⟩; (have HB5 := Aside0.mk hb5); clear hb5)
  go_ret
  exact ⟨rfl, HB5.out⟩
set_option maxHeartbeats 4000000 in
set_option maxRecDepth 100000 in
theorem decls_names.closed (k : Nat) (n : Int) (p : Addr)
    (hF : ∀ (y : S24) (A : Option Addr) (c : Nat) (r : Bool) (W : World), Kd.C k24 W A y.f3.length y.f3 → y.f3.length ≤ c → decls_names.g k y n = some r →
      Calls Try.prog 26 #[.agg #[.int .i64 y.f0, .int .i64 y.f1, .string y.f2, .slice A y.f3.length c, .int .i64 y.f4, .int .i64 y.f5], .int .i64 n] W fun e W' => e = .returned (.bool r) ∧ Below W.heap.size W W')
    (y : S24) (A : Option Addr) (c : Nat) (r : Bool) (W : World) (hp : W.cell? p = some (.int .i64 n)) (hr : Kd.C k24 W A y.f3.length y.f3) (hc : y.f3.length ≤ c) (h : decls_names.g k y n = some r) :
    Calls Try.prog 37 #[.agg #[.int .i64 y.f0, .int .i64 y.f1, .string y.f2, .slice A y.f3.length c, .int .i64 y.f4, .int .i64 y.f5], .pointer (some p)] W fun e W' => e = .returned (.bool r) ∧ Below W.heap.size W W' := by
  have hu := Try.underlying24
  have HF := Aside0.mk hF
  have HR := Aside0.mk hr
  have HC := Aside0.mk hc
  have H := Aside0.mk h
  have hp1 : ∀ o, (W.alloc o).cell? p = some (.int .i64 n) := fun o => pw_cell_below (below_alloc (Below.refl _ _) o) hp
  clear hF hr hc h hp
  go_enter Try.func37, Try.ntmps37
  go_wp2_with (go_at_call 26; (with_reducible refine (HF.out y A c r _ (Kd.C_below HR.out (by with_reducible repeat (first | exact Below.refl _ _ | apply below_alloc))) HC.out H.out).mono ?_); rintro e w5 ⟨rfl, hb5⟩; (have HB5 : Aside0 (Below W.heap.size W w5) := ⟨below_step (by with_reducible repeat (first | exact Below.refl _ _ | apply below_alloc)) hb5⟩); clear hb5)
  go_ret
  exact ⟨rfl, HB5.out⟩
set_option maxHeartbeats 4000000 in
set_option maxRecDepth 100000 in
theorem decls_names.gcalls (k : Nat) : ∀ (x : S24) (A : Option Addr) (c : Nat) (n : Int) (r : Bool) (w : World), Kd.C k24 w A x.f3.length x.f3 → x.f3.length ≤ c → decls_names.g k x n = some r →
    Calls Try.prog 26 #[.agg #[.int .i64 x.f0, .int .i64 x.f1, .string x.f2, .slice A x.f3.length c, .int .i64 x.f4, .int .i64 x.f5], .int .i64 n] w fun e w' => e = .returned (.bool r) ∧ Below w.heap.size w w' := by
  induction k with
  | zero => intro x A c n r w _ _ h; exact absurd h (by simp [decls_names.g])
  | succ k ih =>
  intro x A c n r w hA hc h
  have hu := Try.underlying24
  rw [decls_names.g] at h
  by_cases hl : x.f3.length < 1000000000
  case neg => rw [if_neg hl] at h; exact absurd h (by simp)
  rw [if_pos hl] at h
  obtain ⟨m, hm, h⟩ := Option.bind_eq_some_iff.mp h
  have HI := Aside0.mk ih
  have HR := Aside0.mk hA
  have HC := Aside0.mk hc
  have HM := Aside0.mk hm
  have HL := Aside0.mk hl
  have H := Aside0.mk h
  clear ih hA hc hm hl h
  go_enter Try.func26, Try.ntmps26
  go_upto_region 1 with (fail)
  obtain ⟨W, hW⟩ : ∃ W : World, W = (w.alloc (.cells #[.int .i64 x.f0, .int .i64 x.f1, .string x.f2, .slice A x.f3.length c, .int .i64 x.f4, .int .i64 x.f5] 24)).alloc (.cells #[.int .i64 n] 2) := ⟨_, rfl⟩
  have h0 : W.heap[w.heap.size]? = some (.cells #[.int .i64 x.f0, .int .i64 x.f1, .string x.f2, .slice A x.f3.length c, .int .i64 x.f4, .int .i64 x.f5] 24 (0, 0)) := by rw [hW]; exact blk_alloc (blk_new _ _) _
  have h1 : W.heap[w.heap.size + 1]? = some (.cells #[.int .i64 n] 2 (0, 0)) := by rw [hW]; have h := blk_new (w.alloc (.cells #[.int .i64 x.f0, .int .i64 x.f1, .string x.f2, .slice A x.f3.length c, .int .i64 x.f4, .int .i64 x.f5] 24)) (.cells #[.int .i64 n] 2); rwa [show (w.alloc (.cells #[.int .i64 x.f0, .int .i64 x.f1, .string x.f2, .slice A x.f3.length c, .int .i64 x.f4, .int .i64 x.f5] 24)).heap.size = w.heap.size + 1 by simp] at h
  have hb : Below w.heap.size w W := by rw [hW]; exact below_alloc (below_alloc (Below.refl _ _) _) _
  try rw [← hW]
  have x0 : W.cell? ⟨w.heap.size, 0, none⟩ = some (.int .i64 x.f0) := (blk_cell h0 0).trans rfl
  have x1 : W.cell? ⟨w.heap.size, 1, none⟩ = some (.int .i64 x.f1) := (blk_cell h0 1).trans rfl
  have x2 : W.cell? ⟨w.heap.size, 2, none⟩ = some (.string x.f2) := (blk_cell h0 2).trans rfl
  have x3 : W.cell? ⟨w.heap.size, 3, none⟩ = some (.slice A x.f3.length c) := (blk_cell h0 3).trans rfl
  have x4 : W.cell? ⟨w.heap.size, 4, none⟩ = some (.int .i64 x.f4) := (blk_cell h0 4).trans rfl
  have x5 : W.cell? ⟨w.heap.size, 5, none⟩ = some (.int .i64 x.f5) := (blk_cell h0 5).trans rfl
  have y0 : W.cell? ⟨w.heap.size + 1, 0, none⟩ = some (.int .i64 n) := (blk_cell h1 0).trans rfl
  have XX := Aside0.mk (And.intro x0 (And.intro x1 (And.intro x2 (And.intro x3 (And.intro x4 (And.intro x5 y0))))))
  have HBW := Aside0.mk hb
  clear hW h0 h1 hb x0 x1 x2 x3 x4 x5 y0
  by_cases hmn : m = n
  · have hmb : (m == n) = true := by simpa using hmn
    have h2 := H.out
    rw [if_pos hmn] at h2
    obtain rfl := Option.some.inj h2
    clear h2 H hmn
    refine start_ (n := 11) (S := fun w' => w'.cell? ⟨w.heap.size, 0, none⟩ = some (.int .i64 x.f0) ∧ w'.cell? ⟨w.heap.size, 1, none⟩ = some (.int .i64 x.f1) ∧ w'.cell? ⟨w.heap.size, 2, none⟩ = some (.string x.f2) ∧ w'.cell? ⟨w.heap.size, 3, none⟩ = some (.slice A x.f3.length c) ∧ w'.cell? ⟨w.heap.size, 4, none⟩ = some (.int .i64 x.f4) ∧ w'.cell? ⟨w.heap.size, 5, none⟩ = some (.int .i64 x.f5) ∧ w'.cell? ⟨w.heap.size + 1, 0, none⟩ = some (.int .i64 n)) (ds := []) (bl 11 0) (by kernel_rfl) rfl rfl ⟨XX.out.1, XX.out.2.1, XX.out.2.2.1, XX.out.2.2.2.1, XX.out.2.2.2.2.1, XX.out.2.2.2.2.2.1, XX.out.2.2.2.2.2.2⟩ (fun hHeld => ?_)
    refine take_ (i := 0) (N := some 5) (v := ?_) (a' := ?_) (bl 11 1) rfl rfl (by kernel_rfl) (fun _ _ _ h => h) (Or.inl ⟨by rfl, ?_⟩) hHeld ?_ ?_
    rotate_left
    · rintro w' ⟨s0, s1, s2, s3, s4, s5, s6⟩
      go_simp
      with_reducible rfl
    rotate_left
    · simp only [Act.put, sa_, sz_, ss_, i64_w, i32_w]; rfl
    refine take_ (i := 2) (N := some 7) (v := ?_) (a' := ?_) (bl 11 5) rfl rfl (by kernel_rfl) (fun _ _ _ h => h) (Or.inl ⟨by rfl, ?_⟩) hHeld ?_ ?_
    rotate_left
    · rintro w' ⟨s0, s1, s2, s3, s4, s5, s6⟩
      go_simp
      with_reducible rfl
    rotate_left
    · simp only [Act.put, sa_, sz_, ss_, i64_w, i32_w]; rfl
    refine one_ (i := 1) (N := some 6) (bl 11 7) rfl rfl (by kernel_rfl) (by decide) (fun K hK => ?_)
    refine goes_ Try.func35 (by kernel_rfl) rfl #[.agg #[.int .i64 x.f0, .int .i64 x.f1, .string x.f2, .slice A x.f3.length c, .int .i64 x.f4, .int .i64 x.f5]] (by rfl) rfl rfl (by (try simp only [List.map_toArray, List.map_cons, List.map_nil]); (rfl)) ?_
    with_reducible refine (decls_named.calls k x.f0 x.f1 x.f2 A c x.f3 x.f4 x.f5 m _ (Kd.C_below (Kd.C_below HR.out HBW.out) (by with_reducible repeat (first | exact Below.refl _ _ | apply below_drew))) HC.out HM.out).mono ?_
    rintro e w5 ⟨rfl, hb5⟩
    refine ⟨_, rfl, ?_⟩
    have HB5 : Aside0 (Below W.heap.size W w5) := ⟨below_step (by with_reducible repeat (first | exact Below.refl _ _ | apply below_drew)) hb5⟩
    clear hb5
    refine hK.out _ _ ⟨pw_cell_below HB5.out XX.out.1, pw_cell_below HB5.out XX.out.2.1, pw_cell_below HB5.out XX.out.2.2.1, pw_cell_below HB5.out XX.out.2.2.2.1, pw_cell_below HB5.out XX.out.2.2.2.2.1, pw_cell_below HB5.out XX.out.2.2.2.2.2.1, pw_cell_below HB5.out XX.out.2.2.2.2.2.2⟩ (fun hHeld => ?_)
    clear hK K
    refine norm_ (a' := ?_) ?_ ?_
    rotate_left
    · show Act.put _ (some 6) _ = _
      simp only [Act.put, sa_, sz_, ss_, i64_w, i32_w]
      rfl
    refine pure_ (i := 3) (N := some 8) (v := ?_) (a' := ?_) (bl 11 15) rfl rfl (by kernel_rfl) (fun _ _ _ h => h) (Or.inl ⟨by rfl, ?_⟩) ?_ ?_
    rotate_left
    · intro w'; go_simp; with_reducible rfl
    rotate_left
    · simp only [Act.put, sa_, sz_, ss_, i64_w, i32_w]; rfl
    refine pure_ (i := 4) (N := some 9) (v := ?_) (a' := ?_) (bl 11 31) rfl rfl (by kernel_rfl) (fun _ _ _ h => h) (Or.inl ⟨by rfl, ?_⟩) ?_ ?_
    rotate_left
    · intro w'; go_simp; with_reducible rfl
    rotate_left
    · simp only [Act.put, sa_, sz_, ss_, i64_w, i32_w]; rfl
    refine pure_ (i := 5) (N := some 10) (v := undef) (a' := ?_) (bl 11 63) rfl rfl (by kernel_rfl) (fun _ _ _ h => h) (Or.inr ⟨by rfl, rfl⟩) ?_ ?_
    rotate_left
    · simp only [Act.put, sa_, sz_, ss_, i64_w, i32_w]; rfl
    refine take_ (i := 6) (N := some 11) (v := undef) (a' := ?_) (bl 11 127) rfl rfl (by kernel_rfl) (fun _ _ _ h => h) (Or.inr ⟨by rfl, rfl⟩) hHeld ?_ ?_
    rotate_left
    · simp only [Act.put, sa_, sz_, ss_, i64_w, i32_w]; rfl
    refine pure_ (i := 7) (N := some 12) (v := undef) (a' := ?_) (bl 11 255) rfl rfl (by kernel_rfl) (fun _ _ _ h => h) (Or.inr ⟨by rfl, rfl⟩) ?_ ?_
    rotate_left
    · simp only [Act.put, sa_, sz_, ss_, i64_w, i32_w]; rfl
    refine one_ (i := 8) (N := some 13) (bl 11 511) rfl rfl (by kernel_rfl) (by decide) (fun K hK => ?_)
    refine off_ (by rfl) ?_
    refine hK.out _ _ hHeld (fun hHeld => ?_)
    clear hK K
    refine norm_ (a' := ?_) ?_ ?_
    rotate_left
    · show Act.put _ (some 13) _ = _
      simp only [Act.put, sa_, sz_, ss_, i64_w, i32_w]
      rfl
    refine pure_ (i := 9) (N := some 14) (v := ?_) (a' := ?_) (bl 11 1023) rfl rfl (by kernel_rfl) (fun _ _ _ h => h) (Or.inl ⟨by rfl, ?_⟩) ?_ ?_
    rotate_left
    · intro w'; go_simp; with_reducible rfl
    rotate_left
    · simp only [Act.put, sa_, sz_, ss_, i64_w, i32_w]; rfl
    refine pure_ (i := 10) (N := some 4) (v := ?_) (a' := ?_) (bl 11 2047) rfl rfl (by kernel_rfl) (fun _ _ _ h => h) (Or.inl ⟨by rfl, ?_⟩) ?_ ?_
    rotate_left
    · intro w'; go_simp; with_reducible rfl
    rotate_left
    · simp only [Act.put, sa_, sz_, ss_, i64_w, i32_w]; rfl
    refine done_ (by kernel_rfl) ?_
    go_wp2
    go_ret
    exact ⟨rfl, below_step HBW.out HB5.out⟩
  · have hmb : (m == n) = false := by simpa using hmn
    have h2 := H.out
    rw [if_neg hmn] at h2
    obtain ⟨i, hi, h2⟩ := Option.bind_eq_some_iff.mp h2
    obtain rfl := Option.some.inj h2
    have HI0 := Aside0.mk hi
    clear h2 H hmn hi
    go_region_held3 (fun w' => w'.cell? ⟨w.heap.size, 0, none⟩ = some (.int .i64 x.f0) ∧ w'.cell? ⟨w.heap.size, 1, none⟩ = some (.int .i64 x.f1) ∧ w'.cell? ⟨w.heap.size, 2, none⟩ = some (.string x.f2) ∧ w'.cell? ⟨w.heap.size, 3, none⟩ = some (.slice A x.f3.length c) ∧ w'.cell? ⟨w.heap.size, 4, none⟩ = some (.int .i64 x.f4) ∧ w'.cell? ⟨w.heap.size, 5, none⟩ = some (.int .i64 x.f5) ∧ w'.cell? ⟨w.heap.size + 1, 0, none⟩ = some (.int .i64 n)) (((with_reducible refine ⟨pw_cell_below ?b XX.out.1, pw_cell_below ?b XX.out.2.1, pw_cell_below ?b XX.out.2.2.1, pw_cell_below ?b XX.out.2.2.2.1, pw_cell_below ?b XX.out.2.2.2.2.1, pw_cell_below ?b XX.out.2.2.2.2.2.1, pw_cell_below ?b XX.out.2.2.2.2.2.2⟩; case b => with_reducible repeat (first | exact HB6.out | exact HB5.out | exact Below.refl _ _ | apply below_drew)))) (first | (go_at_call 36; (with_reducible refine (decls_names.contains (fun y => decls_names.g k y n) ⟨w.heap.size + 1, 0, none⟩ n (fun y A c r W hp hr hc hy => decls_names.closed k n ⟨w.heap.size + 1, 0, none⟩ (fun y A c r W hA hc h => HI.out y A c n r W hA hc h) y A c r W hp hr hc hy) A c x.f3 i _ (pw_cell_below (by with_reducible repeat (exact HB5.out)) XX.out.2.2.2.2.2.2) (Kd.C_below (Kd.C_below HR.out HBW.out) (by with_reducible repeat (exact HB5.out))) HC.out HL.out HI0.out).mono ?_); rintro e w6 ⟨rfl, hb6⟩; (have HB6 : Aside0 (Below W.heap.size W w6) := ⟨below_step (by with_reducible repeat (exact HB5.out)) hb6⟩); clear hb6) | (go_at_call 35; (with_reducible refine (decls_named.calls k x.f0 x.f1 x.f2 A c x.f3 x.f4 x.f5 m _ (Kd.C_below (Kd.C_below HR.out HBW.out) (by with_reducible repeat (first | exact Below.refl _ _ | apply below_drew))) HC.out HM.out).mono ?_); rintro e w5 ⟨rfl, hb5⟩; (have HB5 : Aside0 (Below W.heap.size W w5) := ⟨below_step (by with_reducible repeat (first | exact Below.refl _ _ | apply below_drew)) hb5⟩); clear hb5))
    all_goals (rename_i hHeld; clear hHeld)
    all_goals go_wp2
    all_goals go_ret
    all_goals exact ⟨rfl, below_step HBW.out HB6.out⟩
theorem decls_names.calls (k : Nat) (a0 a1 : Int) (a2 : ByteArray) (A : Option Addr) (c : Nat) (a3 : List S24) (a4 a5 : Int) (n : Int) (r : Bool) (w : World) (hA : Kd.C k24 w A a3.length a3) (hc : a3.length ≤ c) (h : decls_names.f k a0 a1 a2 a3 a4 a5 n = some r) :
    Calls Try.prog 26 #[.agg #[.int .i64 a0, .int .i64 a1, .string a2, .slice A a3.length c, .int .i64 a4, .int .i64 a5], .int .i64 n] w fun e w' => e = .returned (.bool r) ∧ Below w.heap.size w w' :=
  decls_names.gcalls k ⟨a0, a1, a2, a3, a4, a5⟩ A c n r w hA hc h

/-! ### decls_walk: function 27 (given) -/
/-- the number of a term, made anew -/
def decls_walk.num (k : Nat) (pl : List Int) (x : S24) : Option Int := (decls_named.f k x.f0 x.f1 x.f2 x.f3 x.f4 x.f5).bind fun n => if n ≥ 0 then (if x.f0 = 13 then (decls_order_place.f pl n).bind fun p => some (wrap64 (wrap64 (p * 64) + Int.tmod x.f1 64)) else decls_order_place.f pl n) else some x.f1
def decls_walk.all (g : S24 → Option S24) : List S24 → Option (List S24)
  | [] => some []
  | x :: xs => (g x).bind fun y => (decls_walk.all g xs).bind fun ys => some (y :: ys)
def decls_walk.f : Nat → List Int → S24 → Option S24
  | 0, _, _ => none
  | k + 1, pl, x => (decls_walk.num k pl x).bind fun n => if x.f3.length < 1000000000 then (decls_walk.all (decls_walk.f k pl) x.f3).bind fun l => some ⟨x.f0, n, x.f2, l, x.f4, x.f5⟩ else none
theorem decls_walk.all_mono {g h : S24 → Option S24} (hg : ∀ x, LeO (g x) (h x)) : ∀ xs, LeO (decls_walk.all g xs) (decls_walk.all h xs)
  | [] => LeO.refl _
  | x :: xs => LeO.bind (hg x) fun y => LeO.bind (decls_walk.all_mono hg xs) fun ys => LeO.refl _
theorem decls_walk.num_mono (k : Nat) (pl : List Int) (x : S24) : LeO (decls_walk.num k pl x) (decls_walk.num (k + 1) pl x) := LeO.bind (decls_named.mono _ _ _ _ _ _ k) fun _ => LeO.refl _
theorem decls_walk.mono : ∀ pl x k, LeO (decls_walk.f k pl x) (decls_walk.f (k + 1) pl x)
  | pl, x, 0 => fun r h => by simp [decls_walk.f] at h
  | pl, x, k + 1 => by
    rw [decls_walk.f, decls_walk.f]
    exact LeO.bind (decls_walk.num_mono k pl x) fun n => LeO.ite (LeO.bind (decls_walk.all_mono (fun y => decls_walk.mono pl y k) _) fun l => LeO.refl _) (LeO.refl _)
theorem decls_walk.len {g : S24 → Option S24} : ∀ xs ys, decls_walk.all g xs = some ys → ys.length = xs.length
  | [], ys, h => by obtain rfl := Option.some.inj h; rfl
  | x :: xs, ys, h => by
    obtain ⟨y, _, h⟩ := Option.bind_eq_some_iff.mp h
    obtain ⟨zs, hz, h⟩ := Option.bind_eq_some_iff.mp h
    obtain rfl := Option.some.inj h
    simp [decls_walk.len xs zs hz]
theorem decls_walk.at_ {g : S24 → Option S24} : ∀ xs ys, decls_walk.all g xs = some ys → ∀ j (hj : j < xs.length) (hk : j < ys.length), g xs[j] = some ys[j]
  | [], _, _, j, hj, _ => absurd hj (by simp)
  | x :: xs, ys, h, j, hj, hk => by
    obtain ⟨y, hy, h⟩ := Option.bind_eq_some_iff.mp h
    obtain ⟨zs, hz, h⟩ := Option.bind_eq_some_iff.mp h
    obtain rfl := Option.some.inj h
    cases j with
    | zero => exact hy
    | succ j => exact decls_walk.at_ xs zs hz j (by simpa using hj) (by simpa using hk)
theorem decls_walk.mkF (W : World) (ok : Nat → Prop) (x : S24) {A3 : Option Addr} {c3 : Nat} (l3 : x.f3.length ≤ c3) (g3 : Kd.F k24 W ok A3 x.f3.length x.f3) : Kd.FK k24 W ok x [.int .i64 x.f0, .int .i64 x.f1, .string x.f2, .slice A3 x.f3.length c3, .int .i64 x.f4, .int .i64 x.f5] := fun W2 hW => k24_mk W2 x l3 (g3 W2 hW)
theorem decls_walk.openF {W : World} {ok : Nat → Prop} {x : S24} {cs : List Value} (h : Kd.FK k24 W ok x cs) : ∃ A3 c3, cs = [.int .i64 x.f0, .int .i64 x.f1, .string x.f2, .slice A3 x.f3.length c3, .int .i64 x.f4, .int .i64 x.f5] ∧ x.f3.length ≤ c3 ∧ Kd.F k24 W ok A3 x.f3.length x.f3 := by
  obtain ⟨A3, c3, rfl, l3, _⟩ := k24_open (Kd.FK_now h)
  refine ⟨A3, c3, rfl, l3, fun W2 hW => ?_⟩
  obtain ⟨A4, c4, e, _, g⟩ := k24_open (h W2 hW)
  obtain ⟨rfl, _⟩ : A3 = A4 ∧ c3 = c4 := by simpa using e
  exact g
theorem decls_walk.below_row {w W : World} {B g : Nat} (h : Below B w W) (hg : B ≤ g) (cs : Array Value) : Below B w (W.setRow g cs) :=
  h.trans ⟨rfl, rfl, rfl, by simp, fun k hk => setRow_other _ _ _ _ (by omega)⟩
/-- a whole struct stored: the world behind it by what it is good for -/
theorem decls_walk.put_row {P : Program} {ops : Array Oper} {rest : List Oper} {o : Oper} {a : Act} {w0 W : World} {Q : Exit → Act → World → Prop} (B : Nat) (hgd : o.guard = none) (ty : TypeId) (x y : Operand) (ho : o.op = .store ty x y)
    (g : Nat) (cells : Array Value) (hx : a.eval x = .pointer (some ⟨g, 0, none⟩)) (hy : a.eval y = .agg cells)
    (t : TypeId) (old : Array Value) (hg : W.heap[g]? = some (.cells old t (0, 0))) (hi : (P.info? ty).map (·.size) = some cells.size)
    (hold : old.size = cells.size) (h1 : cells.all (·.oneCell') = true) (HB : Below B w0 W) (hle : B ≤ g)
    (h : ∀ w2, w2.heap[g]? = some (.cells cells t (0, 0)) → (∀ k, k ≠ g → w2.heap[k]? = W.heap[k]?) → w2.heap.size = W.heap.size → Below B w0 w2 → wpList P ops Q rest (a.put o.dst undef) w2) : wpList P ops Q (o :: rest) a W :=
  wpList_store_row hgd ty x y ho g cells hx hy t old hg hi hold h1
    (h _ (setRow_heap _ _ _ _ _ _ hg) (fun k hk => setRow_other _ _ _ _ hk) (by simp) (decls_walk.below_row HB hle _))
/-- A call through a function value, by its contract. -/
theorem decls_walk.goesv {P : Program} {ops : Array Oper} {Q : Exit → Act → World → Prop} {oi : Oper} {N : Option Tmp} {a : Act} {w : World} {K : Act → World → Prop} {f : FuncId} {fn : Func} {x : Operand} {xs : Array Operand} {ts : Array TypeId} (hf : P.funcs[f]? = some fn) (hname : (fn.name == "runtime.NumGoroutine") = false) (hb : fn.body.isSome = true) (fst args : Array Value)
    (hw : Region.wanted oi (yielded ops a.tmps) = true) (hN : oi.dst = N) (hop : oi.op = .call { callee := .value x, args := xs, argTypes := ts }) (hx : a.eval x = .func (.func f) fst #[]) (hargs : fst ++ xs.map a.eval = args)
    (h : Calls P f args w fun e w' => ∃ v, e = .returned v ∧ K (a.put N v) w') : if Region.wanted oi (yielded ops a.tmps) = true then Oper.wp P oi a w K Q else K (a.put N undef) w := by
  refine call_ f args hw hN ?_ h
  have he := enters_ hf hname hb args w
  unfold execOp
  subst hargs
  simpa [hop, resolve, Deferred.ofValue, invoke, hx] using he
set_option maxHeartbeats 4000000 in
set_option maxRecDepth 100000 in
theorem decls_walk.calls (k : Nat) : ∀ (x : S24) (A : Option Addr) (c : Nat) (pl : List Int) (At : Option Addr) (ct : Nat) (r : S24) (w : World), Kd.C k24 w A x.f3.length x.f3 → x.f3.length ≤ c → Kd.C (Kd.int .i64) w At pl.length pl → pl.length ≤ ct → decls_walk.f k pl x = some r →
    Calls Try.prog 27 #[.agg #[.int .i64 x.f0, .int .i64 x.f1, .string x.f2, .slice A x.f3.length c, .int .i64 x.f4, .int .i64 x.f5], .func (.func 28) #[.agg #[.slice At pl.length ct]] #[]] w fun e w' => ∃ A' c', e = .returned (.agg #[.int .i64 r.f0, .int .i64 r.f1, .string r.f2, .slice A' r.f3.length c', .int .i64 r.f4, .int .i64 r.f5]) ∧ r.f3.length ≤ c' ∧ Kd.F k24 w' (fun q => w.heap.size ≤ q) A' r.f3.length r.f3 ∧ Below w.heap.size w w' := by
  induction k with
  | zero => intro x A c pl At ct r w _ _ _ _ h; exact absurd h (by simp [decls_walk.f])
  | succ k ih =>
  intro x A c pl At ct r w hA hc hT hct h
  have hu := Try.underlying24
  rw [decls_walk.f] at h
  obtain ⟨n, hn, h⟩ := Option.bind_eq_some_iff.mp h
  by_cases hl : x.f3.length < 1000000000
  case neg => rw [if_neg hl] at h; exact absurd h (by simp)
  rw [if_pos hl] at h
  obtain ⟨ys, hys, h⟩ := Option.bind_eq_some_iff.mp h
  obtain rfl := Option.some.inj h
  have hlen := decls_walk.len _ _ hys
  obtain ⟨m, hm, hn⟩ := Option.bind_eq_some_iff.mp hn
  have HI := Aside0.mk ih
  have HR := Aside0.mk hA
  have HC := Aside0.mk hc
  have HT := Aside0.mk hT
  have HCT := Aside0.mk hct
  have HY := Aside0.mk hys
  have HN := Aside0.mk hl
  have HL := Aside0.mk hlen
  have HM := Aside0.mk hm
  have HNN := Aside0.mk hn
  clear ih hA hc hT hct hys hl hlen h hm hn
  go_enter Try.func27, Try.ntmps27
  clear h
  go_upto_if 12 with (((go_at_call 35; (with_reducible refine (decls_named.calls k x.f0 x.f1 x.f2 A c x.f3 x.f4 x.f5 m _ (Kd.C_below HR.out (by with_reducible repeat (first | exact Below.refl _ _ | apply below_alloc))) HC.out HM.out).mono ?_); rintro e w1 ⟨rfl, hb1⟩; (have HB1 := Aside0.mk hb1); clear hb1)))
  have hz1 : (((w.alloc (.cells #[.int .i64 x.f0, .int .i64 x.f1, .string x.f2, .slice A x.f3.length c, .int .i64 x.f4, .int .i64 x.f5] 24)).alloc (.cells #[.int .i64 0, .int .i64 0, .string (⟨#[]⟩ : ByteArray), .slice none 0 0, .int .i64 0, .int .i64 0] 24)).heap.size) = w.heap.size + 2 := by simp
  have h0 := blk_below (blk_alloc (blk_new w (.cells #[.int .i64 x.f0, .int .i64 x.f1, .string x.f2, .slice A x.f3.length c, .int .i64 x.f4, .int .i64 x.f5] 24)) (.cells #[.int .i64 0, .int .i64 0, .string (⟨#[]⟩ : ByteArray), .slice none 0 0, .int .i64 0, .int .i64 0] 24)) HB1.out
  have h1 := blk_below (blk_new (w.alloc (.cells #[.int .i64 x.f0, .int .i64 x.f1, .string x.f2, .slice A x.f3.length c, .int .i64 x.f4, .int .i64 x.f5] 24)) (.cells #[.int .i64 0, .int .i64 0, .string (⟨#[]⟩ : ByteArray), .slice none 0 0, .int .i64 0, .int .i64 0] 24)) HB1.out
  rw [show (w.alloc (.cells #[.int .i64 x.f0, .int .i64 x.f1, .string x.f2, .slice A x.f3.length c, .int .i64 x.f4, .int .i64 x.f5] 24)).heap.size = w.heap.size + 1 by simp] at h1
  have hbw : Below w.heap.size w w1 := below_step (by repeat (first | exact Below.refl _ _ | apply below_alloc)) HB1.out
  have hs1 : w.heap.size + 2 ≤ w1.heap.size := by have := HB1.out.size; omega
  have H0 := Aside0.mk h0
  have H1 := Aside0.mk h1
  have HBW := Aside0.mk hbw
  have HS1 := Aside0.mk hs1
  clear hz1 h0 h1 hbw hs1 HB1
  go_cut [] (fun wc => Aside0 (wc.heap[w.heap.size]? = some (.cells #[.int .i64 x.f0, .int .i64 n, .string x.f2, .slice A x.f3.length c, .int .i64 x.f4, .int .i64 x.f5] 24 (0, 0))) ∧ Aside0 (wc.heap[w.heap.size + 1]? = some (.cells #[.int .i64 0, .int .i64 0, .string (⟨#[]⟩ : ByteArray), .slice none 0 0, .int .i64 0, .int .i64 0] 24 (0, 0))) ∧ Aside0 (Below w.heap.size w wc) ∧ Aside0 (w.heap.size + 2 ≤ wc.heap.size))
  case first =>
    have x0 : w1.cell? ⟨w.heap.size, 0, none⟩ = some (.int .i64 x.f0) := (blk_cell H0.out 0).trans rfl
    by_cases hm0 : m ≥ 0
    case neg =>
      have hd : decide (0 ≤ m) = false := decide_eq_false hm0
      have hnn := HNN.out
      rw [if_neg hm0] at hnn
      obtain rfl := Option.some.inj hnn
      clear hnn hm0
      rw [hd]
      go_wp2
      go_meet
      case rel => exact ⟨H0, H1, HBW, HS1⟩
    have hd : decide (0 ≤ m) = true := decide_eq_true hm0
    have hnn := HNN.out
    rw [if_pos hm0] at hnn
    clear hm0
    rw [hd]
    by_cases hk : x.f0 = 13
    case neg =>
      have hkb : (x.f0 == 13) = false := by simpa using hk
      rw [if_neg hk] at hnn
      have HP := Aside0.mk hnn
      clear hnn hk
      go_wp2_with (go_at_call 28; (with_reducible refine (decls_order_place.calls At ct pl m n _ (Kd.C_below HT.out HBW.out) HCT.out HP.out).mono ?_); rintro e w2 ⟨rfl, hb2⟩; (have k0 := blk_below H0.out hb2); (have k1 := blk_below H1.out hb2); (have z2 : w2.cell? ⟨w.heap.size, 1, none⟩ = some (.int .i64 x.f1) := (blk_cell k0 1).trans rfl); (have f2 : w2.frozen? ⟨w.heap.size, 1, none⟩ = false := blk_frozen k0 1); (have K0 := Aside0.mk k0); (have K1 := Aside0.mk k1); (have HB2 := Aside0.mk hb2); clear k0 k1 hb2)
      go_meet
      case rel => exact ⟨⟨blk_put K0.out 1 _ rfl⟩, ⟨blk_far (p := ⟨w.heap.size, 1, none⟩) K1.out (show w.heap.size + 1 ≠ w.heap.size by omega) _⟩, ⟨below_set (below_step HBW.out HB2.out) (show w.heap.size ≤ w.heap.size by omega)⟩, ⟨by have := HS1.out; have := HB2.out.size; simp; omega⟩⟩
    have hkb : (x.f0 == 13) = true := by simpa using hk
    rw [if_pos hk] at hnn
    obtain ⟨p, hp, hpn⟩ := Option.bind_eq_some_iff.mp hnn
    obtain rfl := Option.some.inj hpn
    have HP := Aside0.mk hp
    clear hnn hk hp hpn
    have x1 : w1.cell? ⟨w.heap.size, 1, none⟩ = some (.int .i64 x.f1) := (blk_cell H0.out 1).trans rfl
    go_upto_region 6 with (fail)
    clear x0
    refine start_ (n := 10) (S := fun w' => w'.cell? ⟨w.heap.size, 1, none⟩ = some (.int .i64 x.f1)) (ds := [9]) (bl 10 0) (by kernel_rfl) rfl rfl (x1) (fun hHeld => ?_)
    refine pure_ (i := 0) (N := some 21) (v := ?_) (a' := ?_) (bl 10 1) rfl rfl (by kernel_rfl) (fun _ _ _ h => h) (Or.inl ⟨by rfl, ?_⟩) ?_ ?_
    rotate_left
    · intro w'; go_simp; with_reducible rfl
    rotate_left
    · simp only [Act.put, sa_, sz_, ss_, i64_w, i32_w]; rfl
    refine pure_ (i := 1) (N := some 22) (v := ?_) (a' := ?_) (bl 10 3) rfl rfl (by kernel_rfl) (fun _ _ _ h => h) (Or.inl ⟨by rfl, ?_⟩) ?_ ?_
    rotate_left
    · intro w'; go_simp; with_reducible rfl
    rotate_left
    · simp only [Act.put, sa_, sz_, ss_, i64_w, i32_w]; rfl
    refine pure_ (i := 4) (N := some 25) (v := ?_) (a' := ?_) (bl 10 19) rfl rfl (by kernel_rfl) (fun _ _ _ h => h) (Or.inl ⟨by rfl, ?_⟩) ?_ ?_
    rotate_left
    · intro w'; go_simp; with_reducible rfl
    rotate_left
    · simp only [Act.put, sa_, sz_, ss_, i64_w, i32_w]; rfl
    refine take_ (i := 5) (N := some 26) (v := ?_) (a' := ?_) (bl 10 51) rfl rfl (by kernel_rfl) (fun _ _ _ h => h) (Or.inl ⟨by rfl, ?_⟩) hHeld ?_ ?_
    rotate_left
    · rintro w' s0
      go_simp
      with_reducible rfl
    rotate_left
    · simp only [Act.put, sa_, sz_, ss_, i64_w, i32_w]; rfl
    refine pure_ (i := 6) (N := some 27) (v := ?_) (a' := ?_) (bl 10 115) rfl rfl (by kernel_rfl) (fun _ _ _ h => h) (Or.inl ⟨by rfl, ?_⟩) ?_ ?_
    rotate_left
    · intro w'; go_simp; with_reducible rfl
    rotate_left
    · simp only [Act.put, sa_, sz_, ss_, i64_w, i32_w]; rfl
    refine one_ (i := 2) (N := some 23) (bl 10 119) rfl rfl (by kernel_rfl) (by decide) (fun K hK => ?_)
    refine decls_walk.goesv Try.func28 (by kernel_rfl) rfl #[.agg #[.slice At pl.length ct]] #[.agg #[.slice At pl.length ct], .int .i64 m] (by rfl) rfl rfl rfl (by (try simp only [List.map_toArray, List.map_cons, List.map_nil]); (rfl)) ?_
    with_reducible refine (decls_order_place.calls At ct pl m p _ (Kd.C_below (Kd.C_below HT.out HBW.out) (by with_reducible repeat (first | exact Below.refl _ _ | apply below_drew))) HCT.out HP.out).mono ?_
    rintro e w2 ⟨rfl, hb2⟩
    refine ⟨_, rfl, ?_⟩
    have hq : Below w1.heap.size w1 w2 := below_step (by with_reducible repeat (first | exact Below.refl _ _ | apply below_drew)) hb2
    have k0 := blk_below H0.out hq
    have k1 := blk_below H1.out hq
    have z2 : w2.cell? ⟨w.heap.size, 1, none⟩ = some (.int .i64 x.f1) := (blk_cell k0 1).trans rfl
    have f2 : w2.frozen? ⟨w.heap.size, 1, none⟩ = false := blk_frozen k0 1
    refine hK.out _ _ z2 (fun hHeld => ?_)
    clear hK K
    refine norm_ (a' := ?_) ?_ ?_
    rotate_left
    · show Act.put _ (some 23) _ = _
      simp only [Act.put, sa_, sz_, ss_, i64_w, i32_w]
      rfl
    refine pure_ (i := 3) (N := some 24) (v := ?_) (a' := ?_) (bl 10 127) rfl rfl (by kernel_rfl) (fun _ _ _ h => h) (Or.inl ⟨by rfl, ?_⟩) ?_ ?_
    rotate_left
    · intro w'; go_simp; with_reducible rfl
    rotate_left
    · simp only [Act.put, sa_, sz_, ss_, i64_w, i32_w]; rfl
    refine pure_ (i := 7) (N := some 28) (v := ?_) (a' := ?_) (bl 10 255) rfl rfl (by kernel_rfl) (fun _ _ _ h => h) (Or.inl ⟨by rfl, ?_⟩) ?_ ?_
    rotate_left
    · intro w'; go_simp; with_reducible rfl
    rotate_left
    · simp only [Act.put, sa_, sz_, ss_, i64_w, i32_w]; rfl
    refine pure_ (i := 8) (N := some 29) (v := ?_) (a' := ?_) (bl 10 511) rfl rfl (by kernel_rfl) (fun _ _ _ h => h) (Or.inl ⟨by rfl, ?_⟩) ?_ ?_
    rotate_left
    · intro w'; go_simp; with_reducible rfl
    rotate_left
    · simp only [Act.put, sa_, sz_, ss_, i64_w, i32_w]; rfl
    refine last_ (i := 9) (N := none) (bl 10 1023) rfl rfl (by kernel_rfl) (by decide) (fun K hK => ?_)
    refine skip_ (w1 := ?_) (by rfl) rfl ?_ ?_
    rotate_left
    · go_simp
      rfl
    refine hK.out _ _ ?_
    clear hK K
    refine done_ (by kernel_rfl) ?_
    have K0 := Aside0.mk k0
    have K1 := Aside0.mk k1
    have HB2 := Aside0.mk hq
    clear k0 k1 hq hb2 f2 z2
    go_wp2
    go_meet
    case rel => exact ⟨⟨blk_put K0.out 1 _ rfl⟩, ⟨blk_far (p := ⟨w.heap.size, 1, none⟩) K1.out (show w.heap.size + 1 ≠ w.heap.size by omega) _⟩, ⟨below_set (below_step HBW.out HB2.out) (show w.heap.size ≤ w.heap.size by omega)⟩, ⟨by have := HS1.out; have := HB2.out.size; simp; omega⟩⟩
  case rest =>
    obtain ⟨H0, H1, HB, HS⟩ := hcut
    clear HNN HM
    have x3 : wc.cell? ⟨w.heap.size, 3, none⟩ = some (.slice A x.f3.length c) := (blk_cell H0.out 3).trans rfl
    by_cases hz : x.f3.length = 0
    · have hzb : ((x.f3.length : Int) == 0) = true := by simp [hz]
      have hzc : (x.f3.length == 0) = true := by simp [hz]
      have hx0 : x.f3 = [] := List.eq_nil_of_length_eq_zero hz
      have hy0 : ys = [] := List.eq_nil_of_length_eq_zero (by have := HL.out; omega)
      have HX0 := Aside0.mk (And.intro hx0 hy0)
      clear hz hx0 hy0
      go_wp2_with (first | (refine wpList_load_row rfl 24 (.tmp 2) rfl w.heap.size rfl 24 _ (0, 0) _ H0.out Try.underlying24 rfl (by kernel_rfl) ?_) | (refine decls_walk.put_row (w0 := w) w.heap.size rfl 24 (.tmp 4) (.tmp 34) rfl (w.heap.size + 1) #[.int .i64 x.f0, .int .i64 n, .string x.f2, .slice A x.f3.length c, .int .i64 x.f4, .int .i64 x.f5] rfl rfl 24 _ H1.out (by kernel_rfl) rfl (by simp [Value.oneCell']) HB.out (by omega) ?_; intro W3 hg3 ho3 hz3 hb3; (have HG3 := Aside0.mk hg3); (have HB3 := Aside0.mk hb3); clear hg3 ho3 hz3 hb3))
      refine bodyPost_ret (results_cell_row rfl _ _ (w.heap.size + 1) 24 _ (0, 0) _ rfl HG3.out Try.underlying24 rfl (by kernel_rfl)) rfl ?_
      obtain ⟨hx0, hy0⟩ := HX0.out
      rw [hx0, hy0]
      exact ⟨A, c, rfl, Nat.zero_le _, fun W' _ => ⟨rfl, by decide, fun h => absurd h (by decide)⟩, HB3.out⟩
    · have hzb : ((x.f3.length : Int) == 0) = false := by rw [beq_eq_false_iff_ne]; omega
      have hzc : (x.f3.length == 0) = false := by rw [beq_eq_false_iff_ne]; omega
      have p0 : 0 ≤ (x.f3.length : Int) := by omega
      have HPOS : Aside0 (0 < x.f3.length) := ⟨by omega⟩
      clear hz
      go_wp2_with ((with_reducible refine gate_dst (N := 38) rfl ?_); refine Kd.N_make k24 (w0 := wc) (w.heap.size + 2) 24 rfl (N' := 38) rfl 22 _ _ rfl (x.f3.length : Int) rfl rfl Try.underlying22 (.agg #[(.int .i64 0), (.int .i64 0), (.string ⟨#[]⟩), (.slice none 0 0), (.int .i64 0), (.int .i64 0)]) 72 info24 rfl (by decide) (by omega) z24 (ok := fun q => w.heap.size + 2 ≤ q) (okp := fun _ => False) (decls_walk.mkF _ _ z24 (Nat.le_refl _) (Kd.F_nil _ _ _)) (fun _ hk => hk.elim) HS.out p0 (by have := HN.out; omega) (Below.refl _ _) HS.out ?_; intro v1 w1 hn1 hb1 hg1 hat1; (obtain ⟨g, cap, rfl, hge, hlt, hblk⟩ := Kd.N_form hn1 (by rw [List.length_replicate, Int.toNat_natCast]; exact HPOS.out)); rw [List.length_replicate, Int.toNat_natCast] at hn1; (have HN1 := Aside0.mk hn1); (have HB1 := Aside0.mk (HB.out.trans (hb1.mono (by omega)))); (have HS1 : Aside0 (w.heap.size + 2 ≤ w1.heap.size) := ⟨Nat.le_trans HS.out hb1.size⟩); (have HG := Aside0.mk hge); (have k0 := blk_grown H0.out hg1 (by simp)); (have k1 := blk_grown H1.out hg1 (by simp)); (have y3 : w1.cell? ⟨w.heap.size, 3, none⟩ = some (.slice A x.f3.length c) := (blk_cell k0 3).trans rfl); (have K0 := Aside0.mk k0); (have K1 := Aside0.mk k1); clear hn1 hb1 hg1 hat1 k0 k1 hge hlt hblk)
      clear H0 H1 HB HS
      go_loopg [42] x.f3.length (fun q v42 w' => ∃ (j : Nat), v42 = .int .i64 (j : Int) ∧ j + q = x.f3.length ∧ Aside0 (w'.heap[w.heap.size]? = some (.cells #[.int .i64 x.f0, .int .i64 n, .string x.f2, .slice A x.f3.length c, .int .i64 x.f4, .int .i64 x.f5] 24 (0, 0))) ∧ Aside0 (w'.heap[w.heap.size + 1]? = some (.cells #[.int .i64 0, .int .i64 0, .string (⟨#[]⟩ : ByteArray), .slice none 0 0, .int .i64 0, .int .i64 0] 24 (0, 0))) ∧ Aside0 (Kd.N k24 24 w' (w.heap.size + 2) (fun q => w.heap.size + 2 ≤ q) (.slice (some ⟨g, 0, none⟩) x.f3.length cap) (ys.take j ++ List.replicate q z24)) ∧ Aside0 (Below w.heap.size w w') ∧ Aside0 (w.heap.size + 2 ≤ w'.heap.size))
      case atStart => exact ⟨0, rfl, by omega, K0, K1, ⟨by rw [List.take_zero, List.nil_append]; exact HN1.out⟩, HB1, HS1⟩
      case round =>
        clear K0 K1 HN1 HB1 HS1 y3 x3
        obtain ⟨j, rfl, hjq, H0, H1, HV, HB, HS⟩ := hrel
        have HRr := Aside0.mk (Kd.C_below HR.out HB.out)
        have x3 : wr.cell? ⟨w.heap.size, 3, none⟩ = some (.slice A x.f3.length c) := (blk_cell H0.out 3).trans rfl
        cases gk with
        | zero =>
          obtain rfl : j = x.f3.length := by omega
          have hd : decide ((x.f3.length : Int) < (x.f3.length : Int)) = false := by simp
          have hlj : (ys.take x.f3.length ++ List.replicate 0 z24) = ys := by rw [← HL.out]; simp
          rw [hlj] at HV
          have f0 : wr.frozen? ⟨w.heap.size, 3, none⟩ = false := blk_frozen H0.out 3
          have y0 := Aside0.mk (blk_put H0.out 3 (.slice (some ⟨g, 0, none⟩) x.f3.length cap) rfl)
          have y1 := Aside0.mk (blk_far (p := ⟨w.heap.size, 3, none⟩) H1.out (show w.heap.size + 1 ≠ w.heap.size by omega) (.slice (some ⟨g, 0, none⟩) x.f3.length cap))
          have yb : Aside0 (Below w.heap.size w (wr.setCell ⟨w.heap.size, 3, none⟩ (.slice (some ⟨g, 0, none⟩) x.f3.length cap))) := ⟨below_set HB.out (show w.heap.size ≤ w.heap.size by omega)⟩
          go_wp2_with (first | (refine wpList_load_row rfl 24 (.tmp 2) rfl w.heap.size rfl 24 _ (0, 0) _ y0.out Try.underlying24 rfl (by kernel_rfl) ?_) | (refine decls_walk.put_row (w0 := w) w.heap.size rfl 24 (.tmp 4) (.tmp 56) rfl (w.heap.size + 1) #[.int .i64 x.f0, .int .i64 n, .string x.f2, .slice (some ⟨g, 0, none⟩) x.f3.length cap, .int .i64 x.f4, .int .i64 x.f5] rfl rfl 24 _ y1.out (by kernel_rfl) rfl (by simp [Value.oneCell']) yb.out (by omega) ?_; intro W3 hg3 ho3 hz3 hb3; (have HG3 := Aside0.mk hg3); (have HO3 := Aside0.mk ho3); (have HB3 := Aside0.mk hb3); clear hg3 ho3 hz3 hb3))
          refine bodyPost_ret (results_cell_row rfl _ _ (w.heap.size + 1) 24 _ (0, 0) _ rfl HG3.out Try.underlying24 rfl (by kernel_rfl)) rfl ?_
          have HV2 := Kd.N_far (p := ⟨w.heap.size, 3, none⟩) HV.out (fun k hk => show k ≠ w.heap.size by have := hk; omega) (.slice (some ⟨g, 0, none⟩) x.f3.length cap)
          have HV3 := Kd.N_step HV2 (fun k hk hlt => HO3.out k (by omega))
          rw [← HL.out] at HV3
          have hrd := (Kd.N_reads' HV3)
          exact ⟨some ⟨g, 0, none⟩, cap, by rw [HL.out], hrd.2.1, Kd.F_mono (Kd.N_F HV3) (fun k hk => by omega), HB3.out⟩
        | succ q =>
          have hjn : j < x.f3.length := by omega
          have hjy : j < ys.length := by have := HL.out; omega
          have hd : decide ((j : Int) < (x.f3.length : Int)) = true := decide_eq_true (by omega)
          have p0 : 0 ≤ (j : Int) := by omega
          have p1 : (j : Int) < (x.f3.length : Int) := by omega
          have hcall := decls_walk.at_ _ _ HY.out j hjn hjy
          obtain ⟨ad, A3, c3, e0, m0, m1, m2, m3, m4, m5, hl3, hc3⟩ := at_T24 HRr.out (j : Int) p0 p1
          have hX : rd_T24 x.f3 (j : Int) = x.f3[j] := by unfold rd_T24; simp [List.getD_eq_getElem?_getD, List.getElem?_eq_getElem hjn]
          rw [hX] at m0 m1 m2 m3 m4 m5 hl3 hc3
          clear hX
          obtain ⟨X, hXe⟩ : ∃ X, X = x.f3[j] := ⟨_, rfl⟩
          obtain ⟨Y, hYe⟩ : ∃ Y, Y = ys[j] := ⟨_, rfl⟩
          rw [← hXe, ← hYe] at hcall
          rw [← hXe] at m0 m1 m2 m3 m4 m5 hl3 hc3
          clear hXe
          have hset : ys.take (j + 1) ++ List.replicate q z24 = (ys.take j ++ List.replicate (q + 1) z24).set j Y := by
            rw [hYe, List.take_succ_eq_append_getElem hjy, List.replicate_succ, List.set_append_right _ _ (by simp; omega)]
            rw [List.append_assoc, show j - (ys.take j).length = 0 by simp; omega]
            rfl
          have HSET := Aside0.mk hset
          have hlen : (ys.take j ++ List.replicate (q + 1) z24).length = x.f3.length := by have := HL.out; simp; omega
          subst e0
          rw [Int.toNat_natCast] at m0 m1 m2 m3 m4 m5
          have HLEN := Aside0.mk hlen
          clear hset hlen
          generalize ys.take j ++ List.replicate (q + 1) z24 = xs at HSET HLEN HV
          have HCL := Aside0.mk hcall
          have HL3 := Aside0.mk hl3
          have HC3 := Aside0.mk hc3
          have HP := Aside0.mk (And.intro p0 p1)
          clear hcall hl3 hc3 hYe
          have hw : IntKind.i64.wrap ((j : Int) + 1) = ((j + 1 : Nat) : Int) := by
            have := HN.out
            rw [i64_w]
            unfold Go.RowKit.wrap64
            omega
          go_wp2_with (first | ((with_reducible refine gate_store (t := 24) (p := 52) rfl ?_); refine Kd.N_store k24 (w0 := w5) (w.heap.size + 2) rfl rfl 24 (.tmp 52) (.tmp 51) rfl 24 (g := g) (n := x.f3.length) (cap := cap) (o' := j * 6) (j : Int) 0 xs Y (.agg #[.int .i64 Y.f0, .int .i64 Y.f1, .string Y.f2, .slice A5 Y.f3.length c5, .int .i64 Y.f4, .int .i64 Y.f5]) [.int .i64 Y.f0, .int .i64 Y.f1, .string Y.f2, .slice A5 Y.f3.length c5, .int .i64 Y.f4, .int .i64 Y.f5] _ (fun q => w.heap.size + 2 ≤ q) (fun q => wr.heap.size + 1 ≤ q) rfl (by rw [Int.toNat_natCast]; rfl) rfl rfl (by rfl) (by simp [Value.oneCell']) JV.out HP.out.1 HP.out.2 rfl HCC.out (show 6 ≤ 6 from by decide) (decls_walk.mkF _ _ Y HC5.out HF5.out) (fun k hk => ⟨by have := HS.out; omega, by have := HGL.out; omega⟩) (Below.refl _ _) ?_; intro w6 hn6 hb6 hg6; (have HN6 := Aside0.mk hn6); (have HG6 := Aside0.mk hg6); (have HB6 := Aside0.mk hb6); clear hn6 hb6 hg6) | (go_at_call 27; (with_reducible refine (HI.out X A3 c3 pl At ct Y _ (Kd.C_below HC3.out (by with_reducible repeat (first | exact Below.refl _ _ | apply below_alloc))) HL3.out (Kd.C_below (Kd.C_below HT.out HB.out) (by with_reducible repeat (first | exact Below.refl _ _ | apply below_alloc))) HCT.out HCL.out).mono ?_); rintro e w5 ⟨A5, c5, rfl, hc5, hf5, hb5⟩; (have hd5 : Below wr.heap.size wr w5 := below_step (by with_reducible repeat (first | exact Below.refl _ _ | apply below_alloc)) hb5); (have JV := Aside0.mk (Kd.N_below HV.out hd5)); (have J0 := Aside0.mk (blk_below H0.out hd5)); (have J1 := Aside0.mk (blk_below H1.out hd5)); (have JB := Aside0.mk (below_step HB.out hd5)); (have HF5 := Aside0.mk (Kd.F_mono hf5 (ok' := fun q => wr.heap.size + 1 ≤ q) (fun k hk => by simpa using hk))); (have HC5 := Aside0.mk hc5); (have JS : Aside0 (w.heap.size + 2 ≤ w5.heap.size) := ⟨Nat.le_trans HS.out hd5.size⟩); (have HGG : Aside0 (w.heap.size + 2 ≤ g) := ⟨Kd.N_base HV.out g rfl⟩); (have HGL : Aside0 (g < wr.heap.size) := ⟨Kd.N_lt HV.out g rfl⟩); (obtain ⟨ce, hcl, hFK, hcc, hfr⟩ := Kd.N_elem JV.out z24 (j : Int) HP.out.1 HP.out.2); (obtain ⟨ua, uc, rfl, _, _⟩ := decls_walk.openF hFK); (have HCC := Aside0.mk hcc); clear hcl hFK hcc hfr hc5 hf5 hb5 hd5))
          go_roundg q
          case measure => omega
          case rel => exact ⟨j + 1, rfl, by omega, ⟨blk_grown J0.out HG6.out (by have := HGG.out; intro e; have := Option.some.inj e; omega)⟩, ⟨blk_grown J1.out HG6.out (by have := HGG.out; intro e; have := Option.some.inj e; omega)⟩, ⟨by rw [HSET.out]; exact HN6.out⟩, ⟨JB.out.trans (HB6.out.mono (by omega))⟩, ⟨Nat.le_trans JS.out HB6.out.size⟩⟩

end Go.Proofs.Ytgjmidpoebnieaa.PDm
