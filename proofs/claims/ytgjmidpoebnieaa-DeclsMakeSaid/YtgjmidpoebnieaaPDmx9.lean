-- SLIM: a printed text of which the unused ways are cut off
-- PRINTED by print.py (a twelfth state) out of the translation. Not trusted: Lean checks it.
import Derived.Test.YtgjmidpoebnieaaPDmx0
import Derived.Test.YtgjmidpoebnieaaPDmx6
import Derived.Test.YtgjmidpoebnieaaPDmx7
import Derived.Test.YtgjmidpoebnieaaPDmx8
namespace Go.Proofs.Ytgjmidpoebnieaa.PDm
open Go.RowKit Go.Proofs.YtgjmidpoebnieaaW.PrintWords Go.Proofs.YtgjmidpoebnieaaW.PrintLast Go.Proofs.YtgjmidpoebnieaaW.PrintMore
attribute [local go_sem] max2_int min2_int max_two min_two max_three min_three max_four min_four   -- for this text's walks alone
set_option linter.unusedVariables false
set_option linter.unusedSimpArgs false

/-! ### notaryref32_Drop: function 20 -/
mutual
def notaryref32_Drop.j0 : Nat → Int → Bool → Int → Int → ByteArray → List (S24) → Int → Int → Option (Int × Int × ByteArray × (List (S24)) × Int × Int × Bool)
  | 0, _, _, _, _, _, _, _, _ => none
  | k + 1, x1, x39, x219000, x219001, x219002, x219003, x219004, x219005 => if x39 = true then (some (0, 0, (⟨#[]⟩ : ByteArray), ([] : List (S24)), 0, 0, false)) else (notaryref32_Drop.l0 k x1 (([] : List (S24))) 0 x219000 x219001 x219002 x219003 x219004 x219005)
def notaryref32_Drop.l0 : Nat → Int → List (S24) → Int → Int → Int → ByteArray → List (S24) → Int → Int → Option (Int × Int × ByteArray × (List (S24)) × Int × Int × Bool)
  | 0, _, _, _, _, _, _, _, _, _ => none
  | k + 1, x1, x6, x7, x219000, x219001, x219002, x219003, x219004, x219005 => if x7 < (x219003.length : Int) then (if x7 = x1 then (notaryref32_Drop.j2 k x1 x6 x7 false x219000 x219001 x219002 x219003 x219004 x219005) else (if 0 ≤ x7 then ((notaryref32_Names.f k ((rd_T24 x219003 x7).f0) ((rd_T24 x219003 x7).f1) ((rd_T24 x219003 x7).f2) ((rd_T24 x219003 x7).f3) ((rd_T24 x219003 x7).f4) ((rd_T24 x219003 x7).f5) x1).bind fun t226 => (notaryref32_Drop.j2 k x1 x6 x7 t226 x219000 x219001 x219002 x219003 x219004 x219005)) else (none))) else (some (x219000, x219001, x219002, x6, x219004, x219005, true))
def notaryref32_Drop.j2 : Nat → Int → List (S24) → Int → Bool → Int → Int → ByteArray → List (S24) → Int → Int → Option (Int × Int × ByteArray × (List (S24)) × Int × Int × Bool)
  | 0, _, _, _, _, _, _, _, _, _, _ => none
  | k + 1, x1, x6, x7, x60, x219000, x219001, x219002, x219003, x219004, x219005 => if x60 = true then (some (0, 0, (⟨#[]⟩ : ByteArray), ([] : List (S24)), 0, 0, false)) else (if x7 = x1 then (notaryref32_Drop.l0 k x1 x6 (wrap64 (x7 + 1)) x219000 x219001 x219002 x219003 x219004 x219005) else (if 0 ≤ x7 then (if x7 < (x219003.length : Int) then ((notaryref32_Less.f k x1 (x219003.length : Int)).bind fun t228 => ((notaryref32_Renumbered.f k ((rd_T24 x219003 x7).f0) ((rd_T24 x219003 x7).f1) ((rd_T24 x219003 x7).f2) ((rd_T24 x219003 x7).f3) ((rd_T24 x219003 x7).f4) ((rd_T24 x219003 x7).f5) t228).bind fun bt231 => (if x6.length < 1954687338268 then (notaryref32_Drop.l0 k x1 (x6 ++ [(⟨bt231.1, bt231.2.1, bt231.2.2.1, bt231.2.2.2.1, bt231.2.2.2.2.1, bt231.2.2.2.2.2⟩ : S24)]) (wrap64 (x7 + 1)) x219000 x219001 x219002 x219003 x219004 x219005) else (none)))) else (none)) else (none)))
end
def notaryref32_Drop.f (k : Nat) (a0_0 : Int) (a0_1 : Int) (a0_2 : ByteArray) (l0_3 : List (S24)) (a0_4 : Int) (a0_5 : Int) (a1 : Int) : Option (Int × Int × ByteArray × (List (S24)) × Int × Int × Bool) := if a0_0 = 36 then (if a1 < 0 then (notaryref32_Drop.j0 k a1 true a0_0 a0_1 a0_2 l0_3 a0_4 a0_5) else (if a1 ≥ (l0_3.length : Int) then (notaryref32_Drop.j0 k a1 true a0_0 a0_1 a0_2 l0_3 a0_4 a0_5) else (if 0 ≤ a1 then (if a1 < (l0_3.length : Int) then (if ((rd_T24 l0_3 a1).f0) = 33 then (notaryref32_Drop.j0 k a1 (((rd_T24 l0_3 a1).f1) == 1) a0_0 a0_1 a0_2 l0_3 a0_4 a0_5) else (notaryref32_Drop.j0 k a1 false a0_0 a0_1 a0_2 l0_3 a0_4 a0_5)) else (none)) else (none)))) else (notaryref32_Drop.j0 k a1 true a0_0 a0_1 a0_2 l0_3 a0_4 a0_5)
theorem notaryref32_Drop.mono_l : ∀ k, (∀ y0 y1 y2 y3 y4 y5 y6 y7, LeO (notaryref32_Drop.j0 k y0 y1 y2 y3 y4 y5 y6 y7) (notaryref32_Drop.j0 (k + 1) y0 y1 y2 y3 y4 y5 y6 y7)) ∧ (∀ y0 y1 y2 y3 y4 y5 y6 y7 y8, LeO (notaryref32_Drop.l0 k y0 y1 y2 y3 y4 y5 y6 y7 y8) (notaryref32_Drop.l0 (k + 1) y0 y1 y2 y3 y4 y5 y6 y7 y8)) ∧ (∀ y0 y1 y2 y3 y4 y5 y6 y7 y8 y9, LeO (notaryref32_Drop.j2 k y0 y1 y2 y3 y4 y5 y6 y7 y8 y9) (notaryref32_Drop.j2 (k + 1) y0 y1 y2 y3 y4 y5 y6 y7 y8 y9))
  | 0 => ⟨fun _ _ _ _ _ _ _ _ r h => by simp [notaryref32_Drop.j0] at h, fun _ _ _ _ _ _ _ _ _ r h => by simp [notaryref32_Drop.l0] at h, fun _ _ _ _ _ _ _ _ _ _ r h => by simp [notaryref32_Drop.j2] at h⟩
  | k + 1 => by
    obtain ⟨ih0, ih1, ih2⟩ := notaryref32_Drop.mono_l k
    refine ⟨?_, ?_, ?_⟩
    · intro y0 y1 y2 y3 y4 y5 y6 y7
      unfold notaryref32_Drop.j0
      repeat' first | (with_reducible exact ih1 _ _ _ _ _ _ _ _ _) | (with_reducible exact LeO.refl _) | (with_reducible refine LeO.ite ?_ ?_)
    · intro y0 y1 y2 y3 y4 y5 y6 y7 y8
      unfold notaryref32_Drop.l0
      repeat' first | (with_reducible exact ih2 _ _ _ _ _ _ _ _ _ _) | (with_reducible exact notaryref32_Names.mono _ _ _ _ _ _ _ _) | (with_reducible exact LeO.refl _) | (with_reducible refine LeO.ite ?_ ?_) | (with_reducible refine LeO.bind ?_ (fun _ => ?_))
    · intro y0 y1 y2 y3 y4 y5 y6 y7 y8 y9
      unfold notaryref32_Drop.j2
      repeat' first | (with_reducible exact ih1 _ _ _ _ _ _ _ _ _) | (with_reducible exact notaryref32_Less.mono _ _ _) | (with_reducible exact notaryref32_Renumbered.mono _ _ _ _ _ _ _ _) | (with_reducible exact LeO.refl _) | (with_reducible refine LeO.ite ?_ ?_) | (with_reducible refine LeO.bind ?_ (fun _ => ?_))
theorem notaryref32_Drop.mono : ∀ a0 a1 a2 a3 a4 a5 a6 k, LeO (notaryref32_Drop.f k a0 a1 a2 a3 a4 a5 a6) (notaryref32_Drop.f (k + 1) a0 a1 a2 a3 a4 a5 a6) := by
  intro a0 a1 a2 a3 a4 a5 a6 k
  obtain ⟨ih0, ih1, ih2⟩ := notaryref32_Drop.mono_l k
  unfold notaryref32_Drop.f
  repeat' first | (with_reducible exact ih0 _ _ _ _ _ _ _ _) | (with_reducible exact LeO.refl _) | (with_reducible refine LeO.ite ?_ ?_)
def notaryref32_Drop.T10 : Bool × List (List Nat × List Nat) := (true, [([], []), ([], []), ([1], [1]), ([], []), ([2, 3], [2, 3]), ([4], [4]), ([], []), ([], []), ([7], [7]), ([8], [8]), ([6, 9], [6, 9]), ([5, 10, 10], [5, 10]), ([11], [11]), ([0, 12, 11], [0, 12]), ([13, 13, 0, 1, 2, 3, 4, 5, 6, 7, 8, 9, 10, 11, 12, 13], [0, 13])])
def notaryref32_Drop.B10 : List Nat := [0, 0, 2, 0, 14, 30, 0, 0, 128, 384, 960, 2046, 4094, 8191, 16383]
theorem notaryref32_Drop.tab10 : rtab .any (opsOf Try.f20 10) = notaryref32_Drop.T10 := by kernel_rfl
theorem notaryref32_Drop.bits10 : waitsOk notaryref32_Drop.T10.2 notaryref32_Drop.B10 = true := by kernel_rfl
set_option maxHeartbeats 8000000 in
set_option maxRecDepth 100000 in
theorem notaryref32_Drop.calls (k : Nat) (a0_0 : Int) (a0_1 : Int) (a0_2 : ByteArray) (A0_3 : Option Addr) (c0_3 : Nat) (l0_3 : List (S24)) (a0_4 : Int) (a0_5 : Int) (a1 : Int) (r1 : Int) (r2 : Int) (r3 : ByteArray) (r4 : List (S24)) (r5 : Int) (r6 : Int) (r7 : Bool) (w : World) (hr0_3 : Kd.C k24 w A0_3 l0_3.length l0_3) (hc0_3 : l0_3.length ≤ c0_3) (h : notaryref32_Drop.f k a0_0 a0_1 a0_2 l0_3 a0_4 a0_5 a1 = some (r1, r2, r3, r4, r5, r6, r7)) :
    Calls Try.prog 20 #[.agg #[.int .i64 a0_0, .int .i64 a0_1, .string a0_2, .slice A0_3 l0_3.length c0_3, .int .i64 a0_4, .int .i64 a0_5], .int .i64 a1] w fun e w' => ∃ v3_ : Value, e = .returned (.tuple #[.agg #[.int .i64 r1, .int .i64 r2, .string r3, v3_, .int .i64 r5, .int .i64 r6], .bool r7]) ∧ Kd.R k24 24 w' w.heap.size (fun _ => True) v3_ r4 ∧ Below w.heap.size w w' := by
  have hu24 := Try.underlying24
  have HR0_3 := Aside0.mk hr0_3
  have HC0_3 := Aside0.mk hc0_3
  clear hr0_3 hc0_3
  have HB := Aside0.mk (Below.refl w.heap.size w)
  have H : (if a0_0 = 36 then (if a1 < 0 then (notaryref32_Drop.j0 k a1 true a0_0 a0_1 a0_2 l0_3 a0_4 a0_5) else (if a1 ≥ (l0_3.length : Int) then (notaryref32_Drop.j0 k a1 true a0_0 a0_1 a0_2 l0_3 a0_4 a0_5) else (if 0 ≤ a1 then (if a1 < (l0_3.length : Int) then (if ((rd_T24 l0_3 a1).f0) = 33 then (notaryref32_Drop.j0 k a1 (((rd_T24 l0_3 a1).f1) == 1) a0_0 a0_1 a0_2 l0_3 a0_4 a0_5) else (notaryref32_Drop.j0 k a1 false a0_0 a0_1 a0_2 l0_3 a0_4 a0_5)) else (none)) else (none)))) else (notaryref32_Drop.j0 k a1 true a0_0 a0_1 a0_2 l0_3 a0_4 a0_5)) = some (r1, r2, r3, r4, r5, r6, r7) := h
  clear h
  have HC3 := Aside0.mk H
  clear H
  go_enter Try.func20, Try.ntmps20
  go_upto_region 1 with (first | ((with_reducible refine gate_dst (N := 2) rfl ?_); (try (refine gate_guard (by rfl) ?_; dsimp only)); refine box_event ?hg (N := 2) ?hd (cs := #[.int .i64 a0_0, .int .i64 a0_1, .string a0_2, .slice A0_3 l0_3.length c0_3, .int .i64 a0_4, .int .i64 a0_5]) (t := 24) ?hr ?_; (case hd => rfl); (case hg => rfl); (case hr => (go_simp; done)); intro gb218 hg w4 hbox hb; have n0_ := Aside0.mk (below_step HB.out hb); have n1_ := Aside0.mk (hbox); have n2_ := Aside0.mk ((by rw [hg]; exact (below_size HB.out) : w.heap.size ≤ gb218)); have n3_ := Aside0.mk ((by rw [hg]; exact (below_size HB.out) : w.heap.size ≤ gb218)); clear HB; have HB := n0_; have BK218 := n1_; have GW218 := n2_; have GE218 := n3_; clear n0_ n1_ n2_ n3_; clear hb hbox hg) | ((with_reducible refine gate_dst (N := 4) rfl ?_); (try (refine gate_guard (by rfl) ?_; dsimp only)); refine box_event ?hg (N := 4) ?hd (cs := #[.int .i64 0, .int .i64 0, .string (⟨#[]⟩ : ByteArray), .slice none 0 0, .int .i64 0, .int .i64 0]) (t := 24) ?hr ?_; (case hd => rfl); (case hg => rfl); (case hr => (go_simp; done)); intro gb219 hg w5 hbox hb; have n0_ := Aside0.mk (blk_below (g := gb218) (o := .cells #[.int .i64 a0_0, .int .i64 a0_1, .string a0_2, .slice A0_3 l0_3.length c0_3, .int .i64 a0_4, .int .i64 a0_5] 24 (0, 0)) (by exact BK218.out) hb); have n1_ := Aside0.mk (below_step HB.out hb); have n2_ := Aside0.mk (hbox); have n3_ := Aside0.mk ((by rw [hg]; exact (below_size HB.out) : w.heap.size ≤ gb219)); have n4_ := Aside0.mk ((by rw [hg]; exact (below_size HB.out) : w.heap.size ≤ gb219)); have n5_ := Aside0.mk ((by rw [hg]; exact Nat.ne_of_lt (blk_lt (g := gb218) (o := .cells #[.int .i64 a0_0, .int .i64 a0_1, .string a0_2, .slice A0_3 l0_3.length c0_3, .int .i64 a0_4, .int .i64 a0_5] 24 (0, 0)) (by exact BK218.out)) : gb218 ≠ gb219)); have n6_ := Aside0.mk ((by rw [hg]; exact Nat.ne_of_gt (blk_lt (g := gb218) (o := .cells #[.int .i64 a0_0, .int .i64 a0_1, .string a0_2, .slice A0_3 l0_3.length c0_3, .int .i64 a0_4, .int .i64 a0_5] 24 (0, 0)) (by exact BK218.out)) : gb219 ≠ gb218)); clear BK218; clear HB; have BK218 := n0_; have HB := n1_; have BK219 := n2_; have GW219 := n3_; have GE219 := n4_; have NB218_219 := n5_; have NB219_218 := n6_; clear n0_ n1_ n2_ n3_ n4_ n5_ n6_; clear hb hbox hg))
  (skip)
  go_cut [39] (fun v39 wc => ∃ (kq : Nat) (x39_2 : Bool), v39 = .bool x39_2 ∧ Aside0 (notaryref32_Drop.j0 kq a1 x39_2 a0_0 a0_1 a0_2 l0_3 a0_4 a0_5 = some (r1, r2, r3, r4, r5, r6, r7)) ∧ Aside0 (kq ≤ k) ∧ Aside0 (wc.heap[gb218]? = some (.cells #[.int .i64 a0_0, .int .i64 a0_1, .string a0_2, (.slice A0_3 l0_3.length c0_3), .int .i64 a0_4, .int .i64 a0_5] 24 (0, 0))) ∧ Aside0 (wc.heap[gb219]? = some (.cells #[.int .i64 0, .int .i64 0, .string (⟨#[]⟩ : ByteArray), (.slice none 0 0), .int .i64 0, .int .i64 0] 24 (0, 0))) ∧ Aside0 (Below w.heap.size w wc))
  case first =>
    have H := HC3.out
    clear HC3
    by_cases c6 : a0_0 = 36
    rotate_left
    · rw [if_neg c6] at H
      have c6b0 : (a0_0 == 36) = false := beq_eq_false_iff_ne.mpr c6
      have c6b1 : (a0_0 != 36) = true := bne_iff_ne.mpr c6
      (skip)
      have H' := Aside0.mk H
      clear H
      have hnb20 := NB218_219.out
      have hnc20 := NB219_218.out
      have hcz21_0 : w5.cell? ⟨gb218, 0, none⟩ = some (.int .i64 a0_0) := (blk_cell BK218.out 0).trans rfl
      have hcz21_1 : w5.cell? ⟨gb218, 1, none⟩ = some (.int .i64 a0_1) := (blk_cell BK218.out 1).trans rfl
      have hcz21_2 : w5.cell? ⟨gb218, 2, none⟩ = some (.string a0_2) := (blk_cell BK218.out 2).trans rfl
      have hcz21_3 : w5.cell? ⟨gb218, 3, none⟩ = some (.slice A0_3 l0_3.length c0_3) := (blk_cell BK218.out 3).trans rfl
      have hcz21_4 : w5.cell? ⟨gb218, 4, none⟩ = some (.int .i64 a0_4) := (blk_cell BK218.out 4).trans rfl
      have hcz21_5 : w5.cell? ⟨gb218, 5, none⟩ = some (.int .i64 a0_5) := (blk_cell BK218.out 5).trans rfl
      have hfz21_0 := blk_frozen BK218.out 0
      have hfz21_1 := blk_frozen BK218.out 1
      have hfz21_2 := blk_frozen BK218.out 2
      have hfz21_3 := blk_frozen BK218.out 3
      have hfz21_4 := blk_frozen BK218.out 4
      have hfz21_5 := blk_frozen BK218.out 5
      go_wp2
      go_meet
      case rel => exact ⟨_, (true), (by (rfl)), H', ⟨by (omega)⟩, ⟨by exact BK218.out⟩, ⟨by exact BK219.out⟩, ⟨HB.out⟩⟩
    rw [if_pos c6] at H
    have c6b0 : (a0_0 == 36) = true := beq_iff_eq.mpr c6
    have c6b1 : (a0_0 != 36) = false := bne_eq_false_iff_eq.mpr c6
    clear c6
    (skip)
    by_cases c7 : a1 < 0
    · rw [if_pos c7] at H
      have c7b0 : decide (a1 < 0) = true := decide_eq_true c7
      clear c7
      have H' := Aside0.mk H
      clear H
      have hnb8 := NB218_219.out
      have hnc8 := NB219_218.out
      have hcz9_0 : w5.cell? ⟨gb218, 0, none⟩ = some (.int .i64 a0_0) := (blk_cell BK218.out 0).trans rfl
      have hcz9_1 : w5.cell? ⟨gb218, 1, none⟩ = some (.int .i64 a0_1) := (blk_cell BK218.out 1).trans rfl
      have hcz9_2 : w5.cell? ⟨gb218, 2, none⟩ = some (.string a0_2) := (blk_cell BK218.out 2).trans rfl
      have hcz9_3 : w5.cell? ⟨gb218, 3, none⟩ = some (.slice A0_3 l0_3.length c0_3) := (blk_cell BK218.out 3).trans rfl
      have hcz9_4 : w5.cell? ⟨gb218, 4, none⟩ = some (.int .i64 a0_4) := (blk_cell BK218.out 4).trans rfl
      have hcz9_5 : w5.cell? ⟨gb218, 5, none⟩ = some (.int .i64 a0_5) := (blk_cell BK218.out 5).trans rfl
      have hfz9_0 := blk_frozen BK218.out 0
      have hfz9_1 := blk_frozen BK218.out 1
      have hfz9_2 := blk_frozen BK218.out 2
      have hfz9_3 := blk_frozen BK218.out 3
      have hfz9_4 := blk_frozen BK218.out 4
      have hfz9_5 := blk_frozen BK218.out 5
      go_wp2
      go_meet
      case rel => exact ⟨_, (true), (by (rfl)), H', ⟨by (omega)⟩, ⟨by exact BK218.out⟩, ⟨by exact BK219.out⟩, ⟨HB.out⟩⟩
    rw [if_neg c7] at H
    have c7b0 : decide (a1 < 0) = false := decide_eq_false c7
    clear c7
    by_cases c10 : a1 ≥ (l0_3.length : Int)
    · rw [if_pos c10] at H
      have c10b0 : decide ((l0_3.length : Int) ≤ a1) = true := decide_eq_true c10
      clear c10
      have H' := Aside0.mk H
      clear H
      have hnb11 := NB218_219.out
      have hnc11 := NB219_218.out
      have hcz12_0 : w5.cell? ⟨gb218, 0, none⟩ = some (.int .i64 a0_0) := (blk_cell BK218.out 0).trans rfl
      have hcz12_1 : w5.cell? ⟨gb218, 1, none⟩ = some (.int .i64 a0_1) := (blk_cell BK218.out 1).trans rfl
      have hcz12_2 : w5.cell? ⟨gb218, 2, none⟩ = some (.string a0_2) := (blk_cell BK218.out 2).trans rfl
      have hcz12_3 : w5.cell? ⟨gb218, 3, none⟩ = some (.slice A0_3 l0_3.length c0_3) := (blk_cell BK218.out 3).trans rfl
      have hcz12_4 : w5.cell? ⟨gb218, 4, none⟩ = some (.int .i64 a0_4) := (blk_cell BK218.out 4).trans rfl
      have hcz12_5 : w5.cell? ⟨gb218, 5, none⟩ = some (.int .i64 a0_5) := (blk_cell BK218.out 5).trans rfl
      have hfz12_0 := blk_frozen BK218.out 0
      have hfz12_1 := blk_frozen BK218.out 1
      have hfz12_2 := blk_frozen BK218.out 2
      have hfz12_3 := blk_frozen BK218.out 3
      have hfz12_4 := blk_frozen BK218.out 4
      have hfz12_5 := blk_frozen BK218.out 5
      go_wp2
      go_meet
      case rel => exact ⟨_, (true), (by (rfl)), H', ⟨by (omega)⟩, ⟨by exact BK218.out⟩, ⟨by exact BK219.out⟩, ⟨HB.out⟩⟩
    rw [if_neg c10] at H
    have c10b0 : decide ((l0_3.length : Int) ≤ a1) = false := decide_eq_false c10
    clear c10
    by_cases c13 : 0 ≤ a1
    rotate_left
    · rw [if_neg c13] at H
      exact absurd H (by simp)
    rw [if_pos c13] at H
    have c13b0 : decide (0 ≤ a1) = true := decide_eq_true c13
    clear c13
    by_cases c14 : a1 < (l0_3.length : Int)
    rotate_left
    · rw [if_neg c14] at H
      exact absurd H (by simp)
    rw [if_pos c14] at H
    have c14b0 : decide (a1 < (l0_3.length : Int)) = true := decide_eq_true c14
    clear c14
    by_cases c15 : ((rd_T24 l0_3 a1).f0) = 33
    rotate_left
    · rw [if_neg c15] at H
      have c15b0 : (((rd_T24 l0_3 a1).f0) == 33) = false := beq_eq_false_iff_ne.mpr c15
      have c15b1 : (((rd_T24 l0_3 a1).f0) != 33) = true := bne_iff_ne.mpr c15
      have H' := Aside0.mk H
      clear H
      have hnb18 := NB218_219.out
      have hnc18 := NB219_218.out
      have hcz19_0 : w5.cell? ⟨gb218, 0, none⟩ = some (.int .i64 a0_0) := (blk_cell BK218.out 0).trans rfl
      have hcz19_1 : w5.cell? ⟨gb218, 1, none⟩ = some (.int .i64 a0_1) := (blk_cell BK218.out 1).trans rfl
      have hcz19_2 : w5.cell? ⟨gb218, 2, none⟩ = some (.string a0_2) := (blk_cell BK218.out 2).trans rfl
      have hcz19_3 : w5.cell? ⟨gb218, 3, none⟩ = some (.slice A0_3 l0_3.length c0_3) := (blk_cell BK218.out 3).trans rfl
      have hcz19_4 : w5.cell? ⟨gb218, 4, none⟩ = some (.int .i64 a0_4) := (blk_cell BK218.out 4).trans rfl
      have hcz19_5 : w5.cell? ⟨gb218, 5, none⟩ = some (.int .i64 a0_5) := (blk_cell BK218.out 5).trans rfl
      have hfz19_0 := blk_frozen BK218.out 0
      have hfz19_1 := blk_frozen BK218.out 1
      have hfz19_2 := blk_frozen BK218.out 2
      have hfz19_3 := blk_frozen BK218.out 3
      have hfz19_4 := blk_frozen BK218.out 4
      have hfz19_5 := blk_frozen BK218.out 5
      have p220 : 0 ≤ (a1 : Int) := of_decide_eq_true (by (with_reducible assumption))
      have q220 : a1 < (l0_3.length : Int) := of_decide_eq_true (by (with_reducible assumption))
      obtain ⟨ad220, A220_3, c220_3, e220, hx220_0, hx220_1, hx220_2, hx220_3, hx220_4, hx220_5, hl220_3, hi220_3⟩ := at_T24 HR0_3.out a1 p220 q220
      cases e220
      replace hx220_0 := pw_cell_below HB.out hx220_0
      replace hx220_1 := pw_cell_below HB.out hx220_1
      replace hx220_2 := pw_cell_below HB.out hx220_2
      replace hx220_3 := pw_cell_below HB.out hx220_3
      replace hx220_4 := pw_cell_below HB.out hx220_4
      replace hx220_5 := pw_cell_below HB.out hx220_5
      have HR220_3 := Aside0.mk hi220_3
      have HC220_3 := Aside0.mk hl220_3
      clear hi220_3 hl220_3
      replace p220 := eq_true p220
      replace q220 := eq_true q220
      go_wp2
      go_meet
      case rel => exact ⟨_, (false), (by (rfl)), H', ⟨by (omega)⟩, ⟨by exact BK218.out⟩, ⟨by exact BK219.out⟩, ⟨HB.out⟩⟩
    rw [if_pos c15] at H
    have c15b0 : (((rd_T24 l0_3 a1).f0) == 33) = true := beq_iff_eq.mpr c15
    have c15b1 : (((rd_T24 l0_3 a1).f0) != 33) = false := bne_eq_false_iff_eq.mpr c15
    clear c15
    have H' := Aside0.mk H
    clear H
    have hnb16 := NB218_219.out
    have hnc16 := NB219_218.out
    have hcz17_0 : w5.cell? ⟨gb218, 0, none⟩ = some (.int .i64 a0_0) := (blk_cell BK218.out 0).trans rfl
    have hcz17_1 : w5.cell? ⟨gb218, 1, none⟩ = some (.int .i64 a0_1) := (blk_cell BK218.out 1).trans rfl
    have hcz17_2 : w5.cell? ⟨gb218, 2, none⟩ = some (.string a0_2) := (blk_cell BK218.out 2).trans rfl
    have hcz17_3 : w5.cell? ⟨gb218, 3, none⟩ = some (.slice A0_3 l0_3.length c0_3) := (blk_cell BK218.out 3).trans rfl
    have hcz17_4 : w5.cell? ⟨gb218, 4, none⟩ = some (.int .i64 a0_4) := (blk_cell BK218.out 4).trans rfl
    have hcz17_5 : w5.cell? ⟨gb218, 5, none⟩ = some (.int .i64 a0_5) := (blk_cell BK218.out 5).trans rfl
    have hfz17_0 := blk_frozen BK218.out 0
    have hfz17_1 := blk_frozen BK218.out 1
    have hfz17_2 := blk_frozen BK218.out 2
    have hfz17_3 := blk_frozen BK218.out 3
    have hfz17_4 := blk_frozen BK218.out 4
    have hfz17_5 := blk_frozen BK218.out 5
    have p220 : 0 ≤ (a1 : Int) := of_decide_eq_true (by (with_reducible assumption))
    have q220 : a1 < (l0_3.length : Int) := of_decide_eq_true (by (with_reducible assumption))
    obtain ⟨ad220, A220_3, c220_3, e220, hx220_0, hx220_1, hx220_2, hx220_3, hx220_4, hx220_5, hl220_3, hi220_3⟩ := at_T24 HR0_3.out a1 p220 q220
    cases e220
    replace hx220_0 := pw_cell_below HB.out hx220_0
    replace hx220_1 := pw_cell_below HB.out hx220_1
    replace hx220_2 := pw_cell_below HB.out hx220_2
    replace hx220_3 := pw_cell_below HB.out hx220_3
    replace hx220_4 := pw_cell_below HB.out hx220_4
    replace hx220_5 := pw_cell_below HB.out hx220_5
    have HR220_3 := Aside0.mk hi220_3
    have HC220_3 := Aside0.mk hl220_3
    clear hi220_3 hl220_3
    replace p220 := eq_true p220
    replace q220 := eq_true q220
    have p221 : 0 ≤ (a1 : Int) := of_decide_eq_true (by (with_reducible assumption))
    have q221 : a1 < (l0_3.length : Int) := of_decide_eq_true (by (with_reducible assumption))
    obtain ⟨ad221, A221_3, c221_3, e221, hx221_0, hx221_1, hx221_2, hx221_3, hx221_4, hx221_5, hl221_3, hi221_3⟩ := at_T24 HR0_3.out a1 p221 q221
    obtain rfl : ad220 = ad221 := (by injection e221)
    replace hx221_0 := pw_cell_below HB.out hx221_0
    replace hx221_1 := pw_cell_below HB.out hx221_1
    replace hx221_2 := pw_cell_below HB.out hx221_2
    replace hx221_3 := pw_cell_below HB.out hx221_3
    replace hx221_4 := pw_cell_below HB.out hx221_4
    replace hx221_5 := pw_cell_below HB.out hx221_5
    have HR221_3 := Aside0.mk hi221_3
    have HC221_3 := Aside0.mk hl221_3
    clear hi221_3 hl221_3
    replace p221 := eq_true p221
    replace q221 := eq_true q221
    have ea_ := Option.some.inj (hx220_3.symm.trans hx221_3)
    injection ea_ with ea_ en_ ec_
    subst ea_
    subst ec_
    clear en_
    go_wp2
    go_meet
    case rel => exact ⟨_, ((((rd_T24 l0_3 a1).f1) == 1)), (by (rfl)), H', ⟨by (omega)⟩, ⟨by exact BK218.out⟩, ⟨by exact BK219.out⟩, ⟨HB.out⟩⟩
  clear HC3
  obtain ⟨kq, x39_2, rfl, HA, HJ2, BK218, BK219, HB⟩ := hcut
  rcases kq with _ | kj2
  · exact absurd HA.out (by simp [notaryref32_Drop.j0])
  have H := HA.out
  clear HA
  simp only [notaryref32_Drop.j0] at H
  by_cases c22 : x39_2 = true
  · subst c22
    have H1 : (some (0, 0, (⟨#[]⟩ : ByteArray), ([] : List (S24)), 0, 0, false)) = some (r1, r2, r3, r4, r5, r6, r7) := by rw [if_pos rfl] at H; exact H
    clear H
    have H := H1
    clear H1
    simp only [Option.some.injEq, Prod.mk.injEq] at H
    obtain ⟨rfl, rfl, rfl, rfl, rfl, rfl, rfl⟩ := H
    have hnb23 := NB219_218.out
    have hnc23 := NB218_219.out
    have hcz24_0 : wc.cell? ⟨gb219, 0, none⟩ = some (.int .i64 0) := (blk_cell BK219.out 0).trans rfl
    have hcz24_1 : wc.cell? ⟨gb219, 1, none⟩ = some (.int .i64 0) := (blk_cell BK219.out 1).trans rfl
    have hcz24_2 : wc.cell? ⟨gb219, 2, none⟩ = some (.string (⟨#[]⟩ : ByteArray)) := (blk_cell BK219.out 2).trans rfl
    have hcz24_3 : wc.cell? ⟨gb219, 3, none⟩ = some (.slice none 0 0) := (blk_cell BK219.out 3).trans rfl
    have hcz24_4 : wc.cell? ⟨gb219, 4, none⟩ = some (.int .i64 0) := (blk_cell BK219.out 4).trans rfl
    have hcz24_5 : wc.cell? ⟨gb219, 5, none⟩ = some (.int .i64 0) := (blk_cell BK219.out 5).trans rfl
    have hfz24_0 := blk_frozen BK219.out 0
    have hfz24_1 := blk_frozen BK219.out 1
    have hfz24_2 := blk_frozen BK219.out 2
    have hfz24_3 := blk_frozen BK219.out 3
    have hfz24_4 := blk_frozen BK219.out 4
    have hfz24_5 := blk_frozen BK219.out 5
    go_wp2
    refine bodyPost_ret (results_ct rfl _ _ gb219 24 #[.int .i64 0, .int .i64 0, .string (⟨#[]⟩ : ByteArray), .slice none 0 0, .int .i64 0, .int .i64 0] (0, 0) _ rfl (by refine blk_put (cs := #[.int .i64 0, .int .i64 0, .string (⟨#[]⟩ : ByteArray), .slice none 0 0, .int .i64 0, .int .i64 0]) ?_ 5 _ rfl; refine blk_put (cs := #[.int .i64 0, .int .i64 0, .string (⟨#[]⟩ : ByteArray), .slice none 0 0, .int .i64 0, .int .i64 0]) ?_ 4 _ rfl; refine blk_put (cs := #[.int .i64 0, .int .i64 0, .string (⟨#[]⟩ : ByteArray), .slice none 0 0, .int .i64 0, .int .i64 0]) ?_ 3 _ rfl; refine blk_put (cs := #[.int .i64 0, .int .i64 0, .string (⟨#[]⟩ : ByteArray), .slice none 0 0, .int .i64 0, .int .i64 0]) ?_ 2 _ rfl; refine blk_put (cs := #[.int .i64 0, .int .i64 0, .string (⟨#[]⟩ : ByteArray), .slice none 0 0, .int .i64 0, .int .i64 0]) ?_ 1 _ rfl; refine blk_put (cs := #[.int .i64 0, .int .i64 0, .string (⟨#[]⟩ : ByteArray), .slice none 0 0, .int .i64 0, .int .i64 0]) ?_ 0 _ rfl; exact BK219.out) Try.underlying24 rfl (by kernel_rfl)) rfl ?_
    exact ⟨_, by (rfl), by (exact Kd.R_nil _ _ _ _ _), by repeat (with_reducible first | exact HB.out | refine below_set ?_ GE219.out)⟩
  replace c22 := Bool.eq_false_iff.mpr c22
  subst c22
  have H1 : (notaryref32_Drop.l0 kj2 a1 (([] : List (S24))) 0 a0_0 a0_1 a0_2 l0_3 a0_4 a0_5) = some (r1, r2, r3, r4, r5, r6, r7) := by rw [if_neg (show ¬ (false = true) by decide)] at H; exact H
  clear H
  have H := H1
  clear H1
  obtain ⟨y222, hy222⟩ : ∃ y_ : List (S24), y_ = (([] : List (S24))) := ⟨_, rfl⟩
  replace H : (notaryref32_Drop.l0 kj2 a1 y222 0 a0_0 a0_1 a0_2 l0_3 a0_4 a0_5) = some (r1, r2, r3, r4, r5, r6, r7) := by (rw [hy222]; with_reducible exact H)
  have Ny222 := Aside0.mk hy222
  clear hy222
  have H' := Aside0.mk H
  clear H
  go_wp2_with ((((with_reducible refine gate_dst (N := 41) rfl ?_); (try (refine gate_guard (by rfl) ?_; dsimp only)); refine Kd.R_lit k24 _ 24 ?hg (N := 41) ?hd (xs := ([] : List (S24))) (inner := []) (ok := fun _ => True) (okp := fun _ => True) ?hr ?hp (fun _ hk => hk) trivial (Below.refl _ _) (Nat.le_refl _) (by simp) ?_; (case hd => rfl); (case hg => rfl); (case hr => (go_simp; done)); (case hp => exact (Reps.none _ _)); intro v223 w25 ho26 hb hg_ hnew_; clear hg_ hnew_; (rw [← Ny222.out] at ho26); have n0_ := Aside0.mk (Kd.R_lower (Kd.R_newB (Kd.R_newB ho26 (g := gb218) (o := .cells #[.int .i64 a0_0, .int .i64 a0_1, .string a0_2, .slice A0_3 l0_3.length c0_3, .int .i64 a0_4, .int .i64 a0_5] 24 (0, 0)) (by exact BK218.out)) (g := gb219) (o := .cells #[.int .i64 0, .int .i64 0, .string (⟨#[]⟩ : ByteArray), .slice none 0 0, .int .i64 0, .int .i64 0] 24 (0, 0)) (by exact BK219.out)) (below_size HB.out)); have n1_ := Aside0.mk (blk_below (g := gb218) (o := .cells #[.int .i64 a0_0, .int .i64 a0_1, .string a0_2, .slice A0_3 l0_3.length c0_3, .int .i64 a0_4, .int .i64 a0_5] 24 (0, 0)) (by exact BK218.out) hb); have n2_ := Aside0.mk (blk_below (g := gb219) (o := .cells #[.int .i64 0, .int .i64 0, .string (⟨#[]⟩ : ByteArray), .slice none 0 0, .int .i64 0, .int .i64 0] 24 (0, 0)) (by exact BK219.out) hb); have n3_ := Aside0.mk (below_step HB.out hb); clear BK218; clear BK219; clear HB; have HO224 := n0_; have BK218 := n1_; have BK219 := n2_; have HB := n3_; clear n0_ n1_ n2_ n3_; clear hb ho26)))
  go_loopg [6, 7] kj2 (fun kq v6 v7 w' => ∃ (x6_2 : List (S24)) (x7_2 : Int) (x220000_2 : Int) (x220001_2 : Int) (x220002_2 : ByteArray) (x220004_2 : Int) (x220005_2 : Int), v7 = .int .i64 x7_2 ∧ Aside0 (notaryref32_Drop.l0 kq a1 x6_2 x7_2 a0_0 a0_1 a0_2 l0_3 a0_4 a0_5 = some (r1, r2, r3, r4, r5, r6, r7)) ∧ Aside0 (kq ≤ kj2) ∧ Aside0 (Kd.R k24 24 w' w.heap.size (fun k_ => k_ ≠ gb218 ∧ k_ ≠ gb219) v6 x6_2) ∧ Aside0 (w'.heap[gb218]? = some (.cells #[.int .i64 a0_0, .int .i64 a0_1, .string a0_2, (.slice A0_3 l0_3.length c0_3), .int .i64 a0_4, .int .i64 a0_5] 24 (0, 0))) ∧ Aside0 (w'.heap[gb219]? = some (.cells #[.int .i64 x220000_2, .int .i64 x220001_2, .string x220002_2, (.slice none 0 0), .int .i64 x220004_2, .int .i64 x220005_2] 24 (0, 0))) ∧ Aside0 (Below w.heap.size w w'))
  case atStart => exact ⟨(y222), (0), (0), (0), (⟨#[]⟩ : ByteArray), (0), (0), (by (rfl)), H', ⟨Nat.le_refl _⟩, ⟨by exact Kd.R_mono HO224.out (fun _ hk => ⟨hk.1.2, hk.2⟩)⟩, ⟨by exact BK218.out⟩, ⟨by exact BK219.out⟩, ⟨HB.out⟩⟩
  clear H'
  obtain ⟨x6_2, x7_2, x220000_2, x220001_2, x220002_2, x220004_2, x220005_2, rfl, HA, HK2, HO_6, BK218, BK219, HB⟩ := hrel
  rcases gk with _ | k2
  · exact absurd HA.out (by simp [notaryref32_Drop.l0])
  have H := HA.out
  clear HA
  simp only [notaryref32_Drop.l0] at H
  by_cases c27 : x7_2 < (l0_3.length : Int)
  rotate_left
  · rw [if_neg c27] at H
    have c27b0 : decide (x7_2 < (l0_3.length : Int)) = false := decide_eq_false c27
    clear c27
    simp only [Option.some.injEq, Prod.mk.injEq] at H
    obtain ⟨rfl, rfl, rfl, rfl, rfl, rfl, rfl⟩ := H
    have hnb52 := NB218_219.out
    have hnc52 := NB219_218.out
    have hcz53_0 : wr.cell? ⟨gb218, 0, none⟩ = some (.int .i64 a0_0) := (blk_cell BK218.out 0).trans rfl
    have hcz53_1 : wr.cell? ⟨gb218, 1, none⟩ = some (.int .i64 a0_1) := (blk_cell BK218.out 1).trans rfl
    have hcz53_2 : wr.cell? ⟨gb218, 2, none⟩ = some (.string a0_2) := (blk_cell BK218.out 2).trans rfl
    have hcz53_3 : wr.cell? ⟨gb218, 3, none⟩ = some (.slice A0_3 l0_3.length c0_3) := (blk_cell BK218.out 3).trans rfl
    have hcz53_4 : wr.cell? ⟨gb218, 4, none⟩ = some (.int .i64 a0_4) := (blk_cell BK218.out 4).trans rfl
    have hcz53_5 : wr.cell? ⟨gb218, 5, none⟩ = some (.int .i64 a0_5) := (blk_cell BK218.out 5).trans rfl
    have hfz53_0 := blk_frozen BK218.out 0
    have hfz53_1 := blk_frozen BK218.out 1
    have hfz53_2 := blk_frozen BK218.out 2
    have hfz53_3 := blk_frozen BK218.out 3
    have hfz53_4 := blk_frozen BK218.out 4
    have hfz53_5 := blk_frozen BK218.out 5
    obtain ⟨Ao54, co54, eo54⟩ := Kd.R_slice HO_6.out
    subst eo54
    have hcz55_0 : wr.cell? ⟨gb219, 0, none⟩ = some (.int .i64 x220000_2) := (blk_cell BK219.out 0).trans rfl
    have hcz55_1 : wr.cell? ⟨gb219, 1, none⟩ = some (.int .i64 x220001_2) := (blk_cell BK219.out 1).trans rfl
    have hcz55_2 : wr.cell? ⟨gb219, 2, none⟩ = some (.string x220002_2) := (blk_cell BK219.out 2).trans rfl
    have hcz55_3 : wr.cell? ⟨gb219, 3, none⟩ = some (.slice none 0 0) := (blk_cell BK219.out 3).trans rfl
    have hcz55_4 : wr.cell? ⟨gb219, 4, none⟩ = some (.int .i64 x220004_2) := (blk_cell BK219.out 4).trans rfl
    have hcz55_5 : wr.cell? ⟨gb219, 5, none⟩ = some (.int .i64 x220005_2) := (blk_cell BK219.out 5).trans rfl
    have hfz55_0 := blk_frozen BK219.out 0
    have hfz55_1 := blk_frozen BK219.out 1
    have hfz55_2 := blk_frozen BK219.out 2
    have hfz55_3 := blk_frozen BK219.out 3
    have hfz55_4 := blk_frozen BK219.out 4
    have hfz55_5 := blk_frozen BK219.out 5
    go_wp2
    refine bodyPost_ret (results_ct rfl _ _ gb219 24 #[.int .i64 a0_0, .int .i64 a0_1, .string a0_2, .slice Ao54 x6_2.length co54, .int .i64 a0_4, .int .i64 a0_5] (0, 0) _ rfl (by refine blk_put (cs := #[.int .i64 a0_0, .int .i64 a0_1, .string a0_2, .slice Ao54 x6_2.length co54, .int .i64 a0_4, .int .i64 x220005_2]) ?_ 5 _ rfl; refine blk_put (cs := #[.int .i64 a0_0, .int .i64 a0_1, .string a0_2, .slice Ao54 x6_2.length co54, .int .i64 x220004_2, .int .i64 x220005_2]) ?_ 4 _ rfl; refine blk_put (cs := #[.int .i64 a0_0, .int .i64 a0_1, .string a0_2, .slice none 0 0, .int .i64 x220004_2, .int .i64 x220005_2]) ?_ 3 _ rfl; refine blk_put (cs := #[.int .i64 a0_0, .int .i64 a0_1, .string x220002_2, .slice none 0 0, .int .i64 x220004_2, .int .i64 x220005_2]) ?_ 2 _ rfl; refine blk_put (cs := #[.int .i64 a0_0, .int .i64 x220001_2, .string x220002_2, .slice none 0 0, .int .i64 x220004_2, .int .i64 x220005_2]) ?_ 1 _ rfl; refine blk_put (cs := #[.int .i64 x220000_2, .int .i64 x220001_2, .string x220002_2, .slice none 0 0, .int .i64 x220004_2, .int .i64 x220005_2]) ?_ 0 _ rfl; exact BK219.out) Try.underlying24 rfl (by kernel_rfl)) rfl ?_
    exact ⟨_, by (rfl), by exact Kd.R_mono (Kd.R_far (p := ⟨gb219, 5, none⟩) (Kd.R_far (p := ⟨gb219, 4, none⟩) (Kd.R_far (p := ⟨gb219, 3, none⟩) (Kd.R_far (p := ⟨gb219, 2, none⟩) (Kd.R_far (p := ⟨gb219, 1, none⟩) (Kd.R_far (p := ⟨gb219, 0, none⟩) (Kd.R_mono HO_6.out (fun k_ hk => (⟨hk, hk.2⟩ : _ ∧ k_ ≠ gb219))) (fun _ hk => hk.2) (.int .i64 a0_0)) (fun _ hk => hk.2) (.int .i64 a0_1)) (fun _ hk => hk.2) (.string a0_2)) (fun _ hk => hk.2) (.slice Ao54 x6_2.length co54)) (fun _ hk => hk.2) (.int .i64 a0_4)) (fun _ hk => hk.2) (.int .i64 a0_5)) (fun _ hk => trivial), by repeat (with_reducible first | exact HB.out | refine below_set ?_ GE219.out)⟩

  rw [if_pos c27] at H
  have c27b0 : decide (x7_2 < (l0_3.length : Int)) = true := decide_eq_true c27
  clear c27
  have HC28 := Aside0.mk H
  clear H
  have hnb29 := NB218_219.out
  have hnc29 := NB219_218.out
  have hcz30_0 : wr.cell? ⟨gb218, 0, none⟩ = some (.int .i64 a0_0) := (blk_cell BK218.out 0).trans rfl
  have hcz30_1 : wr.cell? ⟨gb218, 1, none⟩ = some (.int .i64 a0_1) := (blk_cell BK218.out 1).trans rfl
  have hcz30_2 : wr.cell? ⟨gb218, 2, none⟩ = some (.string a0_2) := (blk_cell BK218.out 2).trans rfl
  have hcz30_3 : wr.cell? ⟨gb218, 3, none⟩ = some (.slice A0_3 l0_3.length c0_3) := (blk_cell BK218.out 3).trans rfl
  have hcz30_4 : wr.cell? ⟨gb218, 4, none⟩ = some (.int .i64 a0_4) := (blk_cell BK218.out 4).trans rfl
  have hcz30_5 : wr.cell? ⟨gb218, 5, none⟩ = some (.int .i64 a0_5) := (blk_cell BK218.out 5).trans rfl
  have hfz30_0 := blk_frozen BK218.out 0
  have hfz30_1 := blk_frozen BK218.out 1
  have hfz30_2 := blk_frozen BK218.out 2
  have hfz30_3 := blk_frozen BK218.out 3
  have hfz30_4 := blk_frozen BK218.out 4
  have hfz30_5 := blk_frozen BK218.out 5
  go_upto_region 7 with (fail)
  go_cut [60] (fun v60 wc => ∃ (kq : Nat) (x60_27 : Bool), v60 = .bool x60_27 ∧ Aside0 (notaryref32_Drop.j2 kq a1 x6_2 x7_2 x60_27 a0_0 a0_1 a0_2 l0_3 a0_4 a0_5 = some (r1, r2, r3, r4, r5, r6, r7)) ∧ Aside0 (kq ≤ k2) ∧ Aside0 (Kd.R k24 24 wc w.heap.size (fun k_ => k_ ≠ gb218 ∧ k_ ≠ gb219) u6 x6_2) ∧ Aside0 (wc.heap[gb218]? = some (.cells #[.int .i64 a0_0, .int .i64 a0_1, .string a0_2, (.slice A0_3 l0_3.length c0_3), .int .i64 a0_4, .int .i64 a0_5] 24 (0, 0))) ∧ Aside0 (wc.heap[gb219]? = some (.cells #[.int .i64 x220000_2, .int .i64 x220001_2, .string x220002_2, (.slice none 0 0), .int .i64 x220004_2, .int .i64 x220005_2] 24 (0, 0))) ∧ Aside0 (Below w.heap.size w wc))
  case first =>
    have H := HC28.out
    clear HC28
    by_cases c31 : x7_2 = a1
    · rw [if_pos c31] at H
      have c31b0 : (x7_2 == a1) = true := beq_iff_eq.mpr c31
      have c31b1 : (x7_2 != a1) = false := bne_eq_false_iff_eq.mpr c31
      clear c31
      (skip)
      have H' := Aside0.mk H
      clear H
      go_wp2
      go_meet
      case rel => exact ⟨_, (false), (by (rfl)), H', ⟨by have := HJ2.out; have := HK2.out; (omega)⟩, ⟨by exact HO_6.out⟩, ⟨by exact BK218.out⟩, ⟨by exact BK219.out⟩, ⟨HB.out⟩⟩
    rw [if_neg c31] at H
    have c31b0 : (x7_2 == a1) = false := beq_eq_false_iff_ne.mpr c31
    have c31b1 : (x7_2 != a1) = true := bne_iff_ne.mpr c31
    (skip)
    by_cases c32 : 0 ≤ x7_2
    rotate_left
    · rw [if_neg c32] at H
      exact absurd H (by simp)
    rw [if_pos c32] at H
    have c32b0 : decide (0 ≤ x7_2) = true := decide_eq_true c32
    clear c32
    replace H := Option.bind_eq_some_iff.mp H
    obtain ⟨t226, A330, H⟩ := H
    replace H : (notaryref32_Drop.j2 k2 a1 x6_2 x7_2 t226 a0_0 a0_1 a0_2 l0_3 a0_4 a0_5) = some (r1, r2, r3, r4, r5, r6, r7) := H
    have A33 := Aside0.mk A330
    clear A330
    have H' := Aside0.mk H
    clear H
    have hnb34 := NB218_219.out
    have hnc34 := NB219_218.out
    have hcz35_0 : wr.cell? ⟨gb218, 0, none⟩ = some (.int .i64 a0_0) := (blk_cell BK218.out 0).trans rfl
    have hcz35_1 : wr.cell? ⟨gb218, 1, none⟩ = some (.int .i64 a0_1) := (blk_cell BK218.out 1).trans rfl
    have hcz35_2 : wr.cell? ⟨gb218, 2, none⟩ = some (.string a0_2) := (blk_cell BK218.out 2).trans rfl
    have hcz35_3 : wr.cell? ⟨gb218, 3, none⟩ = some (.slice A0_3 l0_3.length c0_3) := (blk_cell BK218.out 3).trans rfl
    have hcz35_4 : wr.cell? ⟨gb218, 4, none⟩ = some (.int .i64 a0_4) := (blk_cell BK218.out 4).trans rfl
    have hcz35_5 : wr.cell? ⟨gb218, 5, none⟩ = some (.int .i64 a0_5) := (blk_cell BK218.out 5).trans rfl
    have hfz35_0 := blk_frozen BK218.out 0
    have hfz35_1 := blk_frozen BK218.out 1
    have hfz35_2 := blk_frozen BK218.out 2
    have hfz35_3 := blk_frozen BK218.out 3
    have hfz35_4 := blk_frozen BK218.out 4
    have hfz35_5 := blk_frozen BK218.out 5
    have p225 : 0 ≤ (x7_2 : Int) := of_decide_eq_true (by (with_reducible assumption))
    have q225 : x7_2 < (l0_3.length : Int) := of_decide_eq_true (by (with_reducible assumption))
    obtain ⟨ad225, A225_3, c225_3, e225, hx225_0, hx225_1, hx225_2, hx225_3, hx225_4, hx225_5, hl225_3, hi225_3⟩ := at_T24 HR0_3.out x7_2 p225 q225
    cases e225
    replace hx225_0 := pw_cell_below HB.out hx225_0
    replace hx225_1 := pw_cell_below HB.out hx225_1
    replace hx225_2 := pw_cell_below HB.out hx225_2
    replace hx225_3 := pw_cell_below HB.out hx225_3
    replace hx225_4 := pw_cell_below HB.out hx225_4
    replace hx225_5 := pw_cell_below HB.out hx225_5
    have HR225_3 := Aside0.mk hi225_3
    have HC225_3 := Aside0.mk hl225_3
    clear hi225_3 hl225_3
    replace p225 := eq_true p225
    replace q225 := eq_true q225
    go_wp2_with (((go_at_call 33; (with_reducible refine (notaryref32_Names.calls k2 ((rd_T24 l0_3 x7_2).f0) ((rd_T24 l0_3 x7_2).f1) ((rd_T24 l0_3 x7_2).f2) _ _ ((rd_T24 l0_3 x7_2).f3) ((rd_T24 l0_3 x7_2).f4) ((rd_T24 l0_3 x7_2).f5) a1 t226 _ ?side1 ?side2 A33.out).mono ?_); (case side1 => exact Kd.C_below HR225_3.out HB.out); (case side2 => exact HC225_3.out); rintro e w36 ⟨rfl, hb⟩; have n0_ := Aside0.mk (Kd.R_below (by exact HO_6.out) hb); have n1_ := Aside0.mk (blk_below (g := gb218) (o := .cells #[.int .i64 a0_0, .int .i64 a0_1, .string a0_2, .slice (some ad225) l0_3.length c0_3, .int .i64 a0_4, .int .i64 a0_5] 24 (0, 0)) (by exact BK218.out) hb); have n2_ := Aside0.mk (blk_below (g := gb219) (o := .cells #[.int .i64 x220000_2, .int .i64 x220001_2, .string x220002_2, .slice none 0 0, .int .i64 x220004_2, .int .i64 x220005_2] 24 (0, 0)) (by exact BK219.out) hb); have n3_ := Aside0.mk (below_step HB.out hb); clear HO_6; clear BK218; clear BK219; clear HB; have HO_6 := n0_; have BK218 := n1_; have BK219 := n2_; have HB := n3_; clear n0_ n1_ n2_ n3_; (try clear hb); (skip))))
    go_meet
    case rel => exact ⟨_, (t226), (by (rfl)), H', ⟨by have := HJ2.out; have := HK2.out; (omega)⟩, ⟨by exact HO_6.out⟩, ⟨by exact BK218.out⟩, ⟨by exact BK219.out⟩, ⟨HB.out⟩⟩
  clear HC28
  try clear c27b0
  try clear hcz30_0
  try clear hcz30_1
  try clear hcz30_2
  try clear hcz30_3
  try clear hcz30_4
  try clear hcz30_5
  try clear hfz30_0
  try clear hfz30_1
  try clear hfz30_2
  try clear hfz30_3
  try clear hfz30_4
  try clear hfz30_5
  obtain ⟨kq, x60_27, rfl, HA, HJ27, HO_6, BK218, BK219, HB⟩ := hcut
  rcases kq with _ | kj27
  · exact absurd HA.out (by simp [notaryref32_Drop.j2])
  have H := HA.out
  clear HA
  simp only [notaryref32_Drop.j2] at H
  by_cases c37 : x60_27 = true
  · subst c37
    have H1 : (some (0, 0, (⟨#[]⟩ : ByteArray), ([] : List (S24)), 0, 0, false)) = some (r1, r2, r3, r4, r5, r6, r7) := by rw [if_pos rfl] at H; exact H
    clear H
    have H := H1
    clear H1
    simp only [Option.some.injEq, Prod.mk.injEq] at H
    obtain ⟨rfl, rfl, rfl, rfl, rfl, rfl, rfl⟩ := H
    have hnb38 := NB219_218.out
    have hnc38 := NB218_219.out
    have hcz39_0 : wc.cell? ⟨gb219, 0, none⟩ = some (.int .i64 x220000_2) := (blk_cell BK219.out 0).trans rfl
    have hcz39_1 : wc.cell? ⟨gb219, 1, none⟩ = some (.int .i64 x220001_2) := (blk_cell BK219.out 1).trans rfl
    have hcz39_2 : wc.cell? ⟨gb219, 2, none⟩ = some (.string x220002_2) := (blk_cell BK219.out 2).trans rfl
    have hcz39_3 : wc.cell? ⟨gb219, 3, none⟩ = some (.slice none 0 0) := (blk_cell BK219.out 3).trans rfl
    have hcz39_4 : wc.cell? ⟨gb219, 4, none⟩ = some (.int .i64 x220004_2) := (blk_cell BK219.out 4).trans rfl
    have hcz39_5 : wc.cell? ⟨gb219, 5, none⟩ = some (.int .i64 x220005_2) := (blk_cell BK219.out 5).trans rfl
    have hfz39_0 := blk_frozen BK219.out 0
    have hfz39_1 := blk_frozen BK219.out 1
    have hfz39_2 := blk_frozen BK219.out 2
    have hfz39_3 := blk_frozen BK219.out 3
    have hfz39_4 := blk_frozen BK219.out 4
    have hfz39_5 := blk_frozen BK219.out 5
    go_wp2
    refine bodyPost_ret (results_ct rfl _ _ gb219 24 #[.int .i64 0, .int .i64 0, .string (⟨#[]⟩ : ByteArray), .slice none 0 0, .int .i64 0, .int .i64 0] (0, 0) _ rfl (by refine blk_put (cs := #[.int .i64 0, .int .i64 0, .string (⟨#[]⟩ : ByteArray), .slice none 0 0, .int .i64 0, .int .i64 x220005_2]) ?_ 5 _ rfl; refine blk_put (cs := #[.int .i64 0, .int .i64 0, .string (⟨#[]⟩ : ByteArray), .slice none 0 0, .int .i64 x220004_2, .int .i64 x220005_2]) ?_ 4 _ rfl; refine blk_put (cs := #[.int .i64 0, .int .i64 0, .string (⟨#[]⟩ : ByteArray), .slice none 0 0, .int .i64 x220004_2, .int .i64 x220005_2]) ?_ 3 _ rfl; refine blk_put (cs := #[.int .i64 0, .int .i64 0, .string x220002_2, .slice none 0 0, .int .i64 x220004_2, .int .i64 x220005_2]) ?_ 2 _ rfl; refine blk_put (cs := #[.int .i64 0, .int .i64 x220001_2, .string x220002_2, .slice none 0 0, .int .i64 x220004_2, .int .i64 x220005_2]) ?_ 1 _ rfl; refine blk_put (cs := #[.int .i64 x220000_2, .int .i64 x220001_2, .string x220002_2, .slice none 0 0, .int .i64 x220004_2, .int .i64 x220005_2]) ?_ 0 _ rfl; exact BK219.out) Try.underlying24 rfl (by kernel_rfl)) rfl ?_
    exact ⟨_, by (rfl), by (exact Kd.R_nil _ _ _ _ _), by repeat (with_reducible first | exact HB.out | refine below_set ?_ GE219.out)⟩
  replace c37 := Bool.eq_false_iff.mpr c37
  subst c37
  have H1 : (if x7_2 = a1 then (notaryref32_Drop.l0 kj27 a1 x6_2 (wrap64 (x7_2 + 1)) a0_0 a0_1 a0_2 l0_3 a0_4 a0_5) else (if 0 ≤ x7_2 then (if x7_2 < (l0_3.length : Int) then ((notaryref32_Less.f kj27 a1 (l0_3.length : Int)).bind fun t228 => ((notaryref32_Renumbered.f kj27 ((rd_T24 l0_3 x7_2).f0) ((rd_T24 l0_3 x7_2).f1) ((rd_T24 l0_3 x7_2).f2) ((rd_T24 l0_3 x7_2).f3) ((rd_T24 l0_3 x7_2).f4) ((rd_T24 l0_3 x7_2).f5) t228).bind fun bt231 => (if x6_2.length < 1954687338268 then (notaryref32_Drop.l0 kj27 a1 (x6_2 ++ [(⟨bt231.1, bt231.2.1, bt231.2.2.1, bt231.2.2.2.1, bt231.2.2.2.2.1, bt231.2.2.2.2.2⟩ : S24)]) (wrap64 (x7_2 + 1)) a0_0 a0_1 a0_2 l0_3 a0_4 a0_5) else (none)))) else (none)) else (none))) = some (r1, r2, r3, r4, r5, r6, r7) := by rw [if_neg (show ¬ (false = true) by decide)] at H; exact H
  clear H
  have H := H1
  clear H1
  by_cases c40 : x7_2 = a1
  · rw [if_pos c40] at H
    have c40b0 : (x7_2 == a1) = true := beq_iff_eq.mpr c40
    have c40b1 : (x7_2 != a1) = false := bne_eq_false_iff_eq.mpr c40
    clear c40
    have H' := Aside0.mk H
    clear H
    go_wp2
    go_roundg kj27
    case measure => have := HJ2.out; have := HK2.out; have := HJ27.out; omega
    case rel => exact ⟨(x6_2), (wrap64 (x7_2 + 1)), (x220000_2), (x220001_2), (x220002_2), (x220004_2), (x220005_2), (by (rfl)), H', ⟨by have := HJ2.out; have := HK2.out; have := HJ27.out; omega⟩, ⟨by exact HO_6.out⟩, ⟨by exact BK218.out⟩, ⟨by exact BK219.out⟩, ⟨HB.out⟩⟩
  rw [if_neg c40] at H
  have c40b0 : (x7_2 == a1) = false := beq_eq_false_iff_ne.mpr c40
  have c40b1 : (x7_2 != a1) = true := bne_iff_ne.mpr c40
  by_cases c41 : 0 ≤ x7_2
  rotate_left
  · rw [if_neg c41] at H
    exact absurd H (by simp)
  rw [if_pos c41] at H
  have c41b0 : decide (0 ≤ x7_2) = true := decide_eq_true c41
  clear c41
  by_cases c42 : x7_2 < (l0_3.length : Int)
  rotate_left
  · rw [if_neg c42] at H
    exact absurd H (by simp)
  rw [if_pos c42] at H
  have c42b0 : decide (x7_2 < (l0_3.length : Int)) = true := decide_eq_true c42
  clear c42
  replace H := Option.bind_eq_some_iff.mp H
  obtain ⟨t228, A430, H⟩ := H
  replace H : ((notaryref32_Renumbered.f kj27 ((rd_T24 l0_3 x7_2).f0) ((rd_T24 l0_3 x7_2).f1) ((rd_T24 l0_3 x7_2).f2) ((rd_T24 l0_3 x7_2).f3) ((rd_T24 l0_3 x7_2).f4) ((rd_T24 l0_3 x7_2).f5) t228).bind fun bt231 => (if x6_2.length < 1954687338268 then (notaryref32_Drop.l0 kj27 a1 (x6_2 ++ [(⟨bt231.1, bt231.2.1, bt231.2.2.1, bt231.2.2.2.1, bt231.2.2.2.2.1, bt231.2.2.2.2.2⟩ : S24)]) (wrap64 (x7_2 + 1)) a0_0 a0_1 a0_2 l0_3 a0_4 a0_5) else (none))) = some (r1, r2, r3, r4, r5, r6, r7) := H
  have A43 := Aside0.mk A430
  clear A430
  replace H := Option.bind_eq_some_iff.mp H
  obtain ⟨⟨t231, t232, t233, t234, t237, t238⟩, A440, H⟩ := H
  replace H : (if x6_2.length < 1954687338268 then (notaryref32_Drop.l0 kj27 a1 (x6_2 ++ [(⟨t231, t232, t233, t234, t237, t238⟩ : S24)]) (wrap64 (x7_2 + 1)) a0_0 a0_1 a0_2 l0_3 a0_4 a0_5) else (none)) = some (r1, r2, r3, r4, r5, r6, r7) := H
  have A44 := Aside0.mk A440
  clear A440
  by_cases c45 : x6_2.length < 1954687338268
  rotate_left
  · rw [if_neg c45] at H
    exact absurd H (by simp)
  rw [if_pos c45] at H
  have LMc45 := Aside0.mk c45
  clear c45
  obtain ⟨y239, hy239⟩ : ∃ y_ : List (S24), y_ = (x6_2 ++ [(⟨t231, t232, t233, t234, t237, t238⟩ : S24)]) := ⟨_, rfl⟩
  replace H : (notaryref32_Drop.l0 kj27 a1 y239 (wrap64 (x7_2 + 1)) a0_0 a0_1 a0_2 l0_3 a0_4 a0_5) = some (r1, r2, r3, r4, r5, r6, r7) := by (rw [hy239]; with_reducible exact H)
  have Ny239 := Aside0.mk hy239
  clear hy239
  have H' := Aside0.mk H
  clear H
  try go_wp2
  have n0_ := Aside0.mk (Kd.R_drew HO_6.out)
  have n1_ := Aside0.mk (blk_drew BK218.out)
  have n2_ := Aside0.mk (blk_drew BK219.out)
  have n3_ := Aside0.mk (below_drew1 HB.out)
  clear HO_6
  clear BK218
  clear BK219
  clear HB
  have HO_6 := n0_
  have BK218 := n1_
  have BK219 := n2_
  have HB := n3_
  clear n0_ n1_ n2_ n3_
  have p227 : 0 ≤ (x7_2 : Int) := of_decide_eq_true (by (with_reducible assumption))
  have q227 : x7_2 < (l0_3.length : Int) := of_decide_eq_true (by (with_reducible assumption))
  obtain ⟨ad227, A227_3, c227_3, e227, hx227_0, hx227_1, hx227_2, hx227_3, hx227_4, hx227_5, hl227_3, hi227_3⟩ := at_T24 HR0_3.out x7_2 p227 q227
  have hw227_5 := hx227_5
  have hw227_4 := hx227_4
  have hw227_3 := hx227_3
  have hw227_2 := hx227_2
  have hw227_1 := hx227_1
  have hw227_0 := hx227_0
  cases e227
  replace hx227_0 := pw_cell_below HB.out hx227_0
  replace hx227_1 := pw_cell_below HB.out hx227_1
  replace hx227_2 := pw_cell_below HB.out hx227_2
  replace hx227_3 := pw_cell_below HB.out hx227_3
  replace hx227_4 := pw_cell_below HB.out hx227_4
  replace hx227_5 := pw_cell_below HB.out hx227_5
  have HR227_3 := Aside0.mk hi227_3
  have HC227_3 := Aside0.mk hl227_3
  clear hi227_3 hl227_3
  replace p227 := eq_true p227
  replace q227 := eq_true q227
  refine start_ (n := 15) (S := fun w' => w'.cell? ⟨gb218, 0, none⟩ = some (.int .i64 a0_0) ∧ w'.cell? ⟨gb218, 1, none⟩ = some (.int .i64 a0_1) ∧ w'.cell? ⟨gb218, 2, none⟩ = some (.string a0_2) ∧ w'.cell? ⟨gb218, 3, none⟩ = some (.slice (some ad227) l0_3.length c0_3) ∧ w'.cell? ⟨gb218, 4, none⟩ = some (.int .i64 a0_4) ∧ w'.cell? ⟨gb218, 5, none⟩ = some (.int .i64 a0_5) ∧ w'.cell? (ad227.add ((x7_2).toNat * 6)) = some (.int .i64 ((rd_T24 l0_3 x7_2).f0)) ∧ w'.cell? ⟨(ad227.add ((x7_2).toNat * 6)).block, (ad227.add ((x7_2).toNat * 6)).off + 1, none⟩ = some (.int .i64 ((rd_T24 l0_3 x7_2).f1)) ∧ w'.cell? ⟨(ad227.add ((x7_2).toNat * 6)).block, (ad227.add ((x7_2).toNat * 6)).off + 2, none⟩ = some (.string ((rd_T24 l0_3 x7_2).f2)) ∧ w'.cell? ⟨(ad227.add ((x7_2).toNat * 6)).block, (ad227.add ((x7_2).toNat * 6)).off + 3, none⟩ = some (.slice A227_3 ((rd_T24 l0_3 x7_2).f3).length c227_3) ∧ w'.cell? ⟨(ad227.add ((x7_2).toNat * 6)).block, (ad227.add ((x7_2).toNat * 6)).off + 4, none⟩ = some (.int .i64 ((rd_T24 l0_3 x7_2).f4)) ∧ w'.cell? ⟨(ad227.add ((x7_2).toNat * 6)).block, (ad227.add ((x7_2).toNat * 6)).off + 5, none⟩ = some (.int .i64 ((rd_T24 l0_3 x7_2).f5))) (ds := []) (bl 15 0) (by kernel_rfl) rfl rfl ⟨(blk_cell BK218.out 0).trans rfl, (blk_cell BK218.out 1).trans rfl, (blk_cell BK218.out 2).trans rfl, (blk_cell BK218.out 3).trans rfl, (blk_cell BK218.out 4).trans rfl, (blk_cell BK218.out 5).trans rfl, (pw_cell_below HB.out hw227_0), (pw_cell_below HB.out hw227_1), (pw_cell_below HB.out hw227_2), (pw_cell_below HB.out hw227_3), (pw_cell_below HB.out hw227_4), (pw_cell_below HB.out hw227_5)⟩ (fun hHeld => ?_); refine with_tabW notaryref32_Drop.tab10 notaryref32_Drop.bits10 (fun HT_ HW_ => ?_)
  generalize wc.drew = w46 at HO_6 BK218 BK219 HB HR227_3 hx227_0 hx227_1 hx227_2 hx227_3 hx227_4 hx227_5 hHeld ⊢
  refine pure_ (i := 0) (N := some 65) (v := ?_) (a' := ?_) (bl 15 1) rfl rfl (any_of HT_.out (by kernel_rfl)) (fun _ _ _ h => h) (Or.inl ⟨by rfl, ?_⟩) ?_ ?_
  rotate_left
  · intro w'; go_simp; with_reducible rfl
  rotate_left
  · simp only [Act.put, sa_, sz_, ss_, i64_w, i32_w]; rfl
  refine pure_ (i := 1) (N := some 66) (v := ?_) (a' := ?_) (bl 15 3) rfl rfl (any_of HT_.out (by kernel_rfl)) (fun _ _ _ h => h) (Or.inl ⟨by rfl, ?_⟩) ?_ ?_
  rotate_left
  · intro w'; go_simp; with_reducible rfl
  rotate_left
  · simp only [Act.put, sa_, sz_, ss_, i64_w, i32_w]; rfl
  refine pure_ (i := 3) (N := some 68) (v := ?_) (a' := ?_) (bl 15 11) rfl rfl (any_of HT_.out (by kernel_rfl)) (fun _ _ _ h => h) (Or.inl ⟨by rfl, ?_⟩) ?_ ?_
  rotate_left
  · intro w'; go_simp; with_reducible rfl
  rotate_left
  · simp only [Act.put, sa_, sz_, ss_, i64_w, i32_w]; rfl
  refine pure_ (i := 6) (N := some 71) (v := ?_) (a' := ?_) (bl 15 75) rfl rfl (any_of HT_.out (by kernel_rfl)) (fun _ _ _ h => h) (Or.inl ⟨by rfl, ?_⟩) ?_ ?_
  rotate_left
  · intro w'; go_simp; with_reducible rfl
  rotate_left
  · simp only [Act.put, sa_, sz_, ss_, i64_w, i32_w]; rfl
  refine pure_ (i := 7) (N := some 72) (v := ?_) (a' := ?_) (bl 15 203) rfl rfl (any_of HT_.out (by kernel_rfl)) (fun _ _ _ h => h) (Or.inl ⟨by rfl, ?_⟩) ?_ ?_
  rotate_left
  · intro w'; go_simp; with_reducible rfl
  rotate_left
  · simp only [Act.put, sa_, sz_, ss_, i64_w, i32_w]; rfl
  refine take_ (i := 2) (N := some 67) (v := ?_) (a' := ?_) (bl 15 207) rfl rfl (take_ofW HT_.out HW_.out (by kernel_rfl)) (fun _ _ _ h => h) (Or.inl ⟨by rfl, ?_⟩) hHeld ?_ ?_
  rotate_left
  · rintro w' ⟨s0, s1, s2, s3, s4, s5, s6, s7, s8, s9, s10, s11⟩
    go_simp
    with_reducible rfl
  rotate_left
  · simp only [Act.put, sa_, sz_, ss_, i64_w, i32_w]; rfl
  refine pure_ (i := 4) (N := some 69) (v := ?_) (a' := ?_) (bl 15 223) rfl rfl (any_of HT_.out (by kernel_rfl)) (fun _ _ _ h => h) (Or.inl ⟨by rfl, ?_⟩) ?_ ?_
  rotate_left
  · intro w'; go_simp; with_reducible rfl
  rotate_left
  · simp only [Act.put, sa_, sz_, ss_, i64_w, i32_w]; rfl
  refine take_ (i := 5) (N := some 70) (v := ?_) (a' := ?_) (bl 15 255) rfl rfl (take_ofW HT_.out HW_.out (by kernel_rfl)) (fun _ _ _ h => h) (Or.inl ⟨by rfl, ?_⟩) hHeld ?_ ?_
  rotate_left
  · rintro w' ⟨s0, s1, s2, s3, s4, s5, s6, s7, s8, s9, s10, s11⟩
    go_simp
    with_reducible rfl
  rotate_left
  · simp only [Act.put, sa_, sz_, ss_, i64_w, i32_w]; rfl
  refine take_ (i := 8) (N := some 73) (v := ?_) (a' := ?_) (bl 15 511) rfl rfl (take_ofW HT_.out HW_.out (by kernel_rfl)) (fun _ _ _ h => h) (Or.inl ⟨by rfl, ?_⟩) hHeld ?_ ?_
  rotate_left
  · rintro w' ⟨s0, s1, s2, s3, s4, s5, s6, s7, s8, s9, s10, s11⟩
    go_simp
    with_reducible rfl
  rotate_left
  · simp only [Act.put, sa_, sz_, ss_, i64_w, i32_w]; rfl
  refine pure_ (i := 9) (N := some 74) (v := ?_) (a' := ?_) (bl 15 1023) rfl rfl (any_of HT_.out (by kernel_rfl)) (fun _ _ _ h => h) (Or.inl ⟨by rfl, ?_⟩) ?_ ?_
  rotate_left
  · intro w'; go_simp; with_reducible rfl
  rotate_left
  · simp only [Act.put, sa_, sz_, ss_, i64_w, i32_w]; rfl
  refine one_ (i := 10) (N := some 75) (bl 15 2047) rfl rfl (one_of HT_.out (by kernel_rfl)) (by decide) (fun K hK => ?_)
  refine goes_ Try.func30 (by kernel_rfl) rfl #[.int .i64 a1, .int .i64 (l0_3.length : Int)] (by rfl) rfl rfl (by (try simp only [List.map_toArray, List.map_cons, List.map_nil]); (rfl)) ?_
  with_reducible refine (notaryref32_Less.calls kj27 a1 (l0_3.length : Int) t228 _ A43.out).mono ?_
  rintro e w47 ⟨v229, rfl, ho0, hb⟩
  refine ⟨_, rfl, ?_⟩
  have n0_ := Aside0.mk (Kd.R_below (by exact HO_6.out) hb)
  have n1_ := Aside0.mk (Kd.R_lower ho0 (below_size HB.out))
  have n2_ := Aside0.mk (blk_below (g := gb218) (o := .cells #[.int .i64 a0_0, .int .i64 a0_1, .string a0_2, .slice (some ad227) l0_3.length c0_3, .int .i64 a0_4, .int .i64 a0_5] 24 (0, 0)) (by exact BK218.out) hb)
  have n3_ := Aside0.mk (blk_below (g := gb219) (o := .cells #[.int .i64 x220000_2, .int .i64 x220001_2, .string x220002_2, .slice none 0 0, .int .i64 x220004_2, .int .i64 x220005_2] 24 (0, 0)) (by exact BK219.out) hb)
  have n4_ := Aside0.mk (below_step HB.out hb)
  clear HO_6
  clear BK218
  clear BK219
  clear HB
  have HO_6 := n0_
  have HO230 := n1_
  have BK218 := n2_
  have BK219 := n3_
  have HB := n4_
  clear n0_ n1_ n2_ n3_ n4_
  (try clear hb)
  (skip)
  (skip)
  (skip)
  (try clear ho0)
  obtain ⟨Ao48, co48, eo48⟩ := Kd.R_slice HO230.out
  (subst eo48)
  refine hK.out _ _ ⟨(blk_cell BK218.out 0).trans rfl, (blk_cell BK218.out 1).trans rfl, (blk_cell BK218.out 2).trans rfl, (blk_cell BK218.out 3).trans rfl, (blk_cell BK218.out 4).trans rfl, (blk_cell BK218.out 5).trans rfl, (pw_cell_below HB.out hw227_0), (pw_cell_below HB.out hw227_1), (pw_cell_below HB.out hw227_2), (pw_cell_below HB.out hw227_3), (pw_cell_below HB.out hw227_4), (pw_cell_below HB.out hw227_5)⟩ (fun hHeld => ?_)
  clear hK K
  refine norm_ (a' := ?_) ?_ ?_
  rotate_left
  · show Act.put _ (some 75) _ = _
    simp only [Act.put, sa_, sz_, ss_, i64_w, i32_w]
    rfl
  refine one_ (i := 11) (N := some 76) (bl 15 4095) rfl rfl (one_of HT_.out (by kernel_rfl)) (by decide) (fun K hK => ?_)
  refine goes_ Try.func31 (by kernel_rfl) rfl #[.agg #[.int .i64 ((rd_T24 l0_3 x7_2).f0), .int .i64 ((rd_T24 l0_3 x7_2).f1), .string ((rd_T24 l0_3 x7_2).f2), .slice A227_3 ((rd_T24 l0_3 x7_2).f3).length c227_3, .int .i64 ((rd_T24 l0_3 x7_2).f4), .int .i64 ((rd_T24 l0_3 x7_2).f5)], .slice Ao48 t228.length co48] (by rfl) rfl rfl (by (try simp only [List.map_toArray, List.map_cons, List.map_nil]); (rfl)) ?_
  with_reducible refine (notaryref32_Renumbered.calls kj27 ((rd_T24 l0_3 x7_2).f0) ((rd_T24 l0_3 x7_2).f1) ((rd_T24 l0_3 x7_2).f2) _ _ ((rd_T24 l0_3 x7_2).f3) ((rd_T24 l0_3 x7_2).f4) ((rd_T24 l0_3 x7_2).f5) _ _ t228 t231 t232 t233 t234 t237 t238 _ ?side1 ?side2 ?side3 ?side4 A44.out).mono ?_
  (case side1 => exact Kd.C_below HR227_3.out HB.out)
  (case side2 => exact HC227_3.out)
  (case side3 => repeat ((exact (Kd.R_reads' HO230.out).2.2)))
  (case side4 => exact (Kd.R_reads' HO230.out).2.1)
  rintro e w49 ⟨v235, rfl, ho0, hb⟩
  refine ⟨_, rfl, ?_⟩
  have n0_ := Aside0.mk (Kd.R_elder' (by exact HO_6.out) (Kd.R_base ho0) hb)
  have n1_ := Aside0.mk (Kd.R_below (by exact HO230.out) hb)
  have n2_ := Aside0.mk (Kd.R_lower (Kd.R_newB (Kd.R_newB (Kd.R_new' ho0 (Kd.R_lt (by exact HO_6.out))) (g := gb218) (o := .cells #[.int .i64 a0_0, .int .i64 a0_1, .string a0_2, .slice (some ad227) l0_3.length c0_3, .int .i64 a0_4, .int .i64 a0_5] 24 (0, 0)) (by exact BK218.out)) (g := gb219) (o := .cells #[.int .i64 x220000_2, .int .i64 x220001_2, .string x220002_2, .slice none 0 0, .int .i64 x220004_2, .int .i64 x220005_2] 24 (0, 0)) (by exact BK219.out)) (below_size HB.out))
  have n3_ := Aside0.mk (blk_below (g := gb218) (o := .cells #[.int .i64 a0_0, .int .i64 a0_1, .string a0_2, .slice (some ad227) l0_3.length c0_3, .int .i64 a0_4, .int .i64 a0_5] 24 (0, 0)) (by exact BK218.out) hb)
  have n4_ := Aside0.mk (blk_below (g := gb219) (o := .cells #[.int .i64 x220000_2, .int .i64 x220001_2, .string x220002_2, .slice none 0 0, .int .i64 x220004_2, .int .i64 x220005_2] 24 (0, 0)) (by exact BK219.out) hb)
  have n5_ := Aside0.mk (below_step HB.out hb)
  clear HO_6
  clear HO230
  clear BK218
  clear BK219
  clear HB
  have HO_6 := n0_
  have HO230 := n1_
  have HO236 := n2_
  have BK218 := n3_
  have BK219 := n4_
  have HB := n5_
  clear n0_ n1_ n2_ n3_ n4_ n5_
  (try clear hb)
  (skip)
  (skip)
  (skip)
  (try clear ho0)
  obtain ⟨Ao51, co51, eo51⟩ := Kd.R_slice HO236.out
  (subst eo51)
  refine hK.out _ _ ⟨(blk_cell BK218.out 0).trans rfl, (blk_cell BK218.out 1).trans rfl, (blk_cell BK218.out 2).trans rfl, (blk_cell BK218.out 3).trans rfl, (blk_cell BK218.out 4).trans rfl, (blk_cell BK218.out 5).trans rfl, (pw_cell_below HB.out hw227_0), (pw_cell_below HB.out hw227_1), (pw_cell_below HB.out hw227_2), (pw_cell_below HB.out hw227_3), (pw_cell_below HB.out hw227_4), (pw_cell_below HB.out hw227_5)⟩ (fun hHeld => ?_)
  clear hK K
  refine norm_ (a' := ?_) ?_ ?_
  rotate_left
  · show Act.put _ (some 76) _ = _
    simp only [Act.put, sa_, sz_, ss_, i64_w, i32_w]
    rfl
  refine one_ (i := 12) (N := some 77) (bl 15 8191) rfl rfl (one_of HT_.out (by kernel_rfl)) (by decide) (fun K hK => ?_)
  refine value_ (w1 := ?_) (v := ?_) (by rfl) rfl ?_ ?_
  rotate_left 2
  · go_simp
    constructor
    · rfl
    · rfl
  refine hK.out _ _ ⟨(blk_cell (blk_alloc BK218.out _) 0).trans rfl, (blk_cell (blk_alloc BK218.out _) 1).trans rfl, (blk_cell (blk_alloc BK218.out _) 2).trans rfl, (blk_cell (blk_alloc BK218.out _) 3).trans rfl, (blk_cell (blk_alloc BK218.out _) 4).trans rfl, (blk_cell (blk_alloc BK218.out _) 5).trans rfl, (World.cell?_alloc_lt _ _ _ (World.block_lt_of_cell? _ _ ((pw_cell_below HB.out hw227_0)))).trans ((pw_cell_below HB.out hw227_0)), (World.cell?_alloc_lt _ _ _ (World.block_lt_of_cell? _ _ ((pw_cell_below HB.out hw227_1)))).trans ((pw_cell_below HB.out hw227_1)), (World.cell?_alloc_lt _ _ _ (World.block_lt_of_cell? _ _ ((pw_cell_below HB.out hw227_2)))).trans ((pw_cell_below HB.out hw227_2)), (World.cell?_alloc_lt _ _ _ (World.block_lt_of_cell? _ _ ((pw_cell_below HB.out hw227_3)))).trans ((pw_cell_below HB.out hw227_3)), (World.cell?_alloc_lt _ _ _ (World.block_lt_of_cell? _ _ ((pw_cell_below HB.out hw227_4)))).trans ((pw_cell_below HB.out hw227_4)), (World.cell?_alloc_lt _ _ _ (World.block_lt_of_cell? _ _ ((pw_cell_below HB.out hw227_5)))).trans ((pw_cell_below HB.out hw227_5))⟩ (fun hHeld => ?_)
  clear hK K
  refine norm_ (a' := ?_) ?_ ?_
  rotate_left
  · show Act.put _ (some 77) _ = _
    simp only [Act.put, sa_, sz_, ss_, i64_w, i32_w]
    rfl
  refine one_ (i := 13) (N := some 78) (bl 15 16383) rfl rfl (one_of HT_.out (by kernel_rfl)) (by decide) (fun K hK => ?_)
  refine Kd.R_append_step k24 (w0 := w) w.heap.size (by rfl) (.tmp 65) (.tmp 77) 22 24 (.agg #[(.int .i64 0), (.int .i64 0), (.string ⟨#[]⟩), (.slice none 0 0), (.int .i64 0), (.int .i64 0)]) 72 rfl Try.underlying22 info24 rfl (by decide) (by omega) u6 x6_2 (⟨t231, t232, t233, t234, t237, t238⟩ : S24) [.int .i64 t231, .int .i64 t232, .string t233, .slice Ao51 t234.length co51, .int .i64 t237, .int .i64 t238] (fun k_ => k_ ≠ gb218 ∧ k_ ≠ gb219) (fun k_ => (fun k_ => k_ ≠ gb218 ∧ k_ ≠ gb219) k_ ∧ some k_ ≠ (u6 : Value).ownBlock) rfl rfl ?aP (fun _ hk => hk) ?aF ?aO ?aB ?aS ?aL ?_
  (case aP => exact k24_mkM _ _ _ (⟨t231, t232, t233, t234, t237, t238⟩ : S24) (Kd.R_mono (HO236.out) (fun k_ hk => ⟨⟨hk.1.2, hk.2⟩, hk.1.1.2⟩)))
  (case aB => exact HB.out)
  (case aF => exact (fun k_ hk => ⟨Kd.freshB (g := gb218) (o := .cells #[.int .i64 a0_0, .int .i64 a0_1, .string a0_2, .slice (some ad227) l0_3.length c0_3, .int .i64 a0_4, .int .i64 a0_5] 24 (0, 0)) (by exact BK218.out) k_ hk, Kd.freshB (g := gb219) (o := .cells #[.int .i64 x220000_2, .int .i64 x220001_2, .string x220002_2, .slice none 0 0, .int .i64 x220004_2, .int .i64 x220005_2] 24 (0, 0)) (by exact BK219.out) k_ hk⟩))
  (case aO => exact (by exact Kd.R_mono HO_6.out (fun _ hk => ⟨hk.1.1, hk.1.2⟩)))
  (case aS => exact (below_size HB.out))
  (case aL => have := LMc45.out; omega)
  intro v240 w50 ho hb hg hat
  rw [← Ny239.out] at ho
  have n0_ := Aside0.mk (blk_grown (g := gb218) (o := .cells #[.int .i64 a0_0, .int .i64 a0_1, .string a0_2, .slice (some ad227) l0_3.length c0_3, .int .i64 a0_4, .int .i64 a0_5] 24 (0, 0)) (by exact BK218.out) hg (Kd.R_away HO_6.out (fun _ hk => hk.1.1)))
  have n1_ := Aside0.mk (blk_grown (g := gb219) (o := .cells #[.int .i64 x220000_2, .int .i64 x220001_2, .string x220002_2, .slice none 0 0, .int .i64 x220004_2, .int .i64 x220005_2] 24 (0, 0)) (by exact BK219.out) hg (Kd.R_away HO_6.out (fun _ hk => hk.1.2)))
  have n2_ := Aside0.mk (Kd.R_over' (by exact HO230.out) (Kd.R_typed (by exact HO_6.out)) (by decide) hg)
  have n3_ := Aside0.mk (hb)
  have n4_ := Aside0.mk (ho)
  clear BK218
  clear BK219
  clear HO230
  clear HB
  clear HO_6
  clear HO236
  have BK218 := n0_
  have BK219 := n1_
  have HO230 := n2_
  have HB := n3_
  have HO241 := n4_
  clear n0_ n1_ n2_ n3_ n4_
  clear ho hb hg hat
  refine hK.out _ _ ⟨(blk_cell BK218.out 0).trans rfl, (blk_cell BK218.out 1).trans rfl, (blk_cell BK218.out 2).trans rfl, (blk_cell BK218.out 3).trans rfl, (blk_cell BK218.out 4).trans rfl, (blk_cell BK218.out 5).trans rfl, (pw_cell_below HB.out hw227_0), (pw_cell_below HB.out hw227_1), (pw_cell_below HB.out hw227_2), (pw_cell_below HB.out hw227_3), (pw_cell_below HB.out hw227_4), (pw_cell_below HB.out hw227_5)⟩ (fun hHeld => ?_)
  clear hK K
  refine norm_ (a' := ?_) ?_ ?_
  rotate_left
  · show Act.put _ (some 78) _ = _
    simp only [Act.put, sa_, sz_, ss_, i64_w, i32_w]
    rfl
  refine pure_ (i := 14) (N := some 6) (v := ?_) (a' := ?_) (bl 15 32767) rfl rfl (any_of HT_.out (by kernel_rfl)) (fun _ _ _ h => h) (Or.inl ⟨by rfl, ?_⟩) ?_ ?_
  rotate_left
  · intro w'; go_simp; with_reducible rfl
  rotate_left
  · simp only [Act.put, sa_, sz_, ss_, i64_w, i32_w]; rfl
  refine done_ (done_of HT_.out (by kernel_rfl)) ?_
  try go_wp2
  go_roundg kj27
  case measure => have := HJ2.out; have := HK2.out; have := HJ27.out; omega
  case rel => exact ⟨(y239), (wrap64 (x7_2 + 1)), (x220000_2), (x220001_2), (x220002_2), (x220004_2), (x220005_2), (by (rfl)), H', ⟨by have := HJ2.out; have := HK2.out; have := HJ27.out; omega⟩, ⟨by exact HO241.out⟩, ⟨by exact BK218.out⟩, ⟨by exact BK219.out⟩, ⟨HB.out⟩⟩
end Go.Proofs.Ytgjmidpoebnieaa.PDm
