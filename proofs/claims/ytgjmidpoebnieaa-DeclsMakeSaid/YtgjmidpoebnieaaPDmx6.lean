-- SLIM: a printed text of which the unused ways are cut off
-- PRINTED by print.py (a twelfth state) out of the translation. Not trusted: Lean checks it.
import Derived.Test.YtgjmidpoebnieaaPDmx0
import Derived.Test.YtgjmidpoebnieaaPDmx4
import Derived.Test.YtgjmidpoebnieaaPDmx5
namespace Go.Proofs.Ytgjmidpoebnieaa.PDm
open Go.RowKit Go.Proofs.YtgjmidpoebnieaaW.PrintWords Go.Proofs.YtgjmidpoebnieaaW.PrintLast Go.Proofs.YtgjmidpoebnieaaW.PrintMore
attribute [local go_sem] max2_int min2_int max_two min_two max_three min_three max_four min_four   -- for this text's walks alone
set_option linter.unusedVariables false
set_option linter.unusedSimpArgs false

/-! ### notaryref32_Renumbered: function 31 -/
mutual
def notaryref32_Renumbered.j0 : Nat → List Int → Bool → Int → Int → ByteArray → List (S24) → Int → Int → Int → Int → ByteArray → List (S24) → Int → Int → Option (Int × Int × ByteArray × (List (S24)) × Int × Int)
  | 0, _, _, _, _, _, _, _, _, _, _, _, _, _, _ => none
  | k + 1, x1, x26, x158000, x158001, x158002, x158003, x158004, x158005, x163000, x163001, x163002, x163003, x163004, x163005 => if x26 = true then ((notaryref32_Named.f k x158000 x158001 x158002 x158003 x158004 x158005).bind fun t164 => ((notaryref32_Place.f x1 t164).bind fun t165 => (notaryref32_Renumbered.j1 k x1 x158000 x158001 x158002 x158003 x158004 x158005 x163000 (wrap64 ((wrap64 (t165 * 64)) + (Int.tmod x158001 64))) x163002 x163003 x163004 x163005))) else ((notaryref32_Named.f k x158000 x158001 x158002 x158003 x158004 x158005).bind fun t166 => (if t166 ≥ 0 then ((notaryref32_Place.f x1 x158001).bind fun t167 => (notaryref32_Renumbered.j1 k x1 x158000 x158001 x158002 x158003 x158004 x158005 x163000 t167 x163002 x163003 x163004 x163005)) else (notaryref32_Renumbered.j1 k x1 x158000 x158001 x158002 x158003 x158004 x158005 x163000 x163001 x163002 x163003 x163004 x163005)))
def notaryref32_Renumbered.j1 : Nat → List Int → Int → Int → ByteArray → List (S24) → Int → Int → Int → Int → ByteArray → List (S24) → Int → Int → Option (Int × Int × ByteArray × (List (S24)) × Int × Int)
  | 0, _, _, _, _, _, _, _, _, _, _, _, _, _ => none
  | k + 1, x1, x158000, x158001, x158002, x158003, x158004, x158005, x163000, x163001, x163002, x163003, x163004, x163005 => notaryref32_Renumbered.l0 k x1 0 x158000 x158001 x158002 x158003 x158004 x158005 x163000 x163001 x163002 x163003 x163004 x163005
def notaryref32_Renumbered.l0 : Nat → List Int → Int → Int → Int → ByteArray → List (S24) → Int → Int → Int → Int → ByteArray → List (S24) → Int → Int → Option (Int × Int × ByteArray × (List (S24)) × Int × Int)
  | 0, _, _, _, _, _, _, _, _, _, _, _, _, _, _ => none
  | k + 1, x1, x6, x158000, x158001, x158002, x158003, x158004, x158005, x163000, x163001, x163002, x163003, x163004, x163005 => if x6 < (x158003.length : Int) then (if 0 ≤ x6 then ((notaryref32_Renumbered.f k ((rd_T24 x158003 x6).f0) ((rd_T24 x158003 x6).f1) ((rd_T24 x158003 x6).f2) ((rd_T24 x158003 x6).f3) ((rd_T24 x158003 x6).f4) ((rd_T24 x158003 x6).f5) x1).bind fun bt169 => (if x163003.length < 1954687338268 then (notaryref32_Renumbered.l0 k x1 (wrap64 (x6 + 1)) x158000 x158001 x158002 x158003 x158004 x158005 x163000 x163001 x163002 (x163003 ++ [(⟨bt169.1, bt169.2.1, bt169.2.2.1, bt169.2.2.2.1, bt169.2.2.2.2.1, bt169.2.2.2.2.2⟩ : S24)]) x163004 x163005) else (none))) else (none)) else (some (x163000, x163001, x163002, x163003, x163004, x163005))
def notaryref32_Renumbered.f : Nat → Int → Int → ByteArray → List (S24) → Int → Int → List Int → Option (Int × Int × ByteArray × (List (S24)) × Int × Int)
  | 0, _, _, _, _, _, _, _ => none
  | k + 1, a0_0, a0_1, a0_2, l0_3, a0_4, a0_5, l1 => (some (([] : List (S24)) : List (S24))).bind fun y159 => ((notaryref32_Named.f k a0_0 a0_1 a0_2 l0_3 a0_4 a0_5).bind fun t163 => (if t163 ≥ 0 then (notaryref32_Renumbered.j0 k l1 (a0_0 == 13) a0_0 a0_1 a0_2 l0_3 a0_4 a0_5 a0_0 a0_1 a0_2 y159 a0_4 a0_5) else (notaryref32_Renumbered.j0 k l1 false a0_0 a0_1 a0_2 l0_3 a0_4 a0_5 a0_0 a0_1 a0_2 y159 a0_4 a0_5)))
end
theorem notaryref32_Renumbered.mono_l : ∀ k, (∀ y0 y1 y2 y3 y4 y5 y6, LeO (notaryref32_Renumbered.f k y0 y1 y2 y3 y4 y5 y6) (notaryref32_Renumbered.f (k + 1) y0 y1 y2 y3 y4 y5 y6)) ∧ (∀ y0 y1 y2 y3 y4 y5 y6 y7 y8 y9 y10 y11 y12 y13, LeO (notaryref32_Renumbered.j0 k y0 y1 y2 y3 y4 y5 y6 y7 y8 y9 y10 y11 y12 y13) (notaryref32_Renumbered.j0 (k + 1) y0 y1 y2 y3 y4 y5 y6 y7 y8 y9 y10 y11 y12 y13)) ∧ (∀ y0 y1 y2 y3 y4 y5 y6 y7 y8 y9 y10 y11 y12, LeO (notaryref32_Renumbered.j1 k y0 y1 y2 y3 y4 y5 y6 y7 y8 y9 y10 y11 y12) (notaryref32_Renumbered.j1 (k + 1) y0 y1 y2 y3 y4 y5 y6 y7 y8 y9 y10 y11 y12)) ∧ (∀ y0 y1 y2 y3 y4 y5 y6 y7 y8 y9 y10 y11 y12 y13, LeO (notaryref32_Renumbered.l0 k y0 y1 y2 y3 y4 y5 y6 y7 y8 y9 y10 y11 y12 y13) (notaryref32_Renumbered.l0 (k + 1) y0 y1 y2 y3 y4 y5 y6 y7 y8 y9 y10 y11 y12 y13))
  | 0 => ⟨fun _ _ _ _ _ _ _ r h => by simp [notaryref32_Renumbered.f] at h, fun _ _ _ _ _ _ _ _ _ _ _ _ _ _ r h => by simp [notaryref32_Renumbered.j0] at h, fun _ _ _ _ _ _ _ _ _ _ _ _ _ r h => by simp [notaryref32_Renumbered.j1] at h, fun _ _ _ _ _ _ _ _ _ _ _ _ _ _ r h => by simp [notaryref32_Renumbered.l0] at h⟩
  | k + 1 => by
    obtain ⟨ih0, ih1, ih2, ih3⟩ := notaryref32_Renumbered.mono_l k
    refine ⟨?_, ?_, ?_, ?_⟩
    · intro y0 y1 y2 y3 y4 y5 y6
      unfold notaryref32_Renumbered.f
      repeat' first | (with_reducible exact ih1 _ _ _ _ _ _ _ _ _ _ _ _ _ _) | (with_reducible exact notaryref32_Named.mono _ _ _ _ _ _ _) | (with_reducible exact LeO.refl _) | (with_reducible refine LeO.ite ?_ ?_) | (with_reducible refine LeO.bind ?_ (fun _ => ?_))
    · intro y0 y1 y2 y3 y4 y5 y6 y7 y8 y9 y10 y11 y12 y13
      unfold notaryref32_Renumbered.j0
      repeat' first | (with_reducible exact ih2 _ _ _ _ _ _ _ _ _ _ _ _ _) | (with_reducible exact notaryref32_Named.mono _ _ _ _ _ _ _) | (with_reducible exact LeO.refl _) | (with_reducible refine LeO.ite ?_ ?_) | (with_reducible refine LeO.bind ?_ (fun _ => ?_))
    · intro y0 y1 y2 y3 y4 y5 y6 y7 y8 y9 y10 y11 y12
      unfold notaryref32_Renumbered.j1
      repeat' first | (with_reducible exact ih3 _ _ _ _ _ _ _ _ _ _ _ _ _ _)
    · intro y0 y1 y2 y3 y4 y5 y6 y7 y8 y9 y10 y11 y12 y13
      unfold notaryref32_Renumbered.l0
      repeat' first | (with_reducible exact ih0 _ _ _ _ _ _ _) | (with_reducible exact ih3 _ _ _ _ _ _ _ _ _ _ _ _ _ _) | (with_reducible exact LeO.refl _) | (with_reducible refine LeO.ite ?_ ?_) | (with_reducible refine LeO.bind ?_ (fun _ => ?_))
theorem notaryref32_Renumbered.mono : ∀ a0 a1 a2 a3 a4 a5 a6 k, LeO (notaryref32_Renumbered.f k a0 a1 a2 a3 a4 a5 a6) (notaryref32_Renumbered.f (k + 1) a0 a1 a2 a3 a4 a5 a6) := by
  intro a0 a1 a2 a3 a4 a5 a6 k
  obtain ⟨ih0, ih1, ih2, ih3⟩ := notaryref32_Renumbered.mono_l k
  exact ih0 a0 a1 a2 a3 a4 a5 a6
def notaryref32_Renumbered.T3 : Bool × List (List Nat × List Nat) := (true, [([], []), ([], []), ([1], [1]), ([0, 2, 2], [0, 2]), ([3], [3]), ([], []), ([5], [5]), ([6], [6]), ([4, 7], [4, 7]), ([0, 1, 2, 3, 4, 5, 6, 7, 8], []), ([9, 8, 3, 0, 1, 2, 3, 4, 5, 6, 7, 8], [8, 9])])
def notaryref32_Renumbered.B3 : List Nat := [0, 0, 2, 7, 15, 0, 32, 96, 255, 511, 1023]
theorem notaryref32_Renumbered.tab3 : rtab .any (opsOf Try.f31 3) = notaryref32_Renumbered.T3 := by kernel_rfl
theorem notaryref32_Renumbered.bits3 : waitsOk notaryref32_Renumbered.T3.2 notaryref32_Renumbered.B3 = true := by kernel_rfl
def notaryref32_Renumbered.T9 : Bool × List (List Nat × List Nat) := (true, [([], []), ([0], [0]), ([], []), ([2], [2]), ([], []), ([3, 4], [3, 4]), ([5], [5]), ([], []), ([6, 7], [6, 7]), ([8], [8]), ([1, 9, 8], [1, 9]), ([0, 1, 2, 3, 4, 5, 6, 7, 8, 9, 10], []), ([11, 10, 10, 0, 1, 2, 3, 4, 5, 6, 7, 8, 9, 10], [10, 11])])
def notaryref32_Renumbered.B9 : List Nat := [0, 1, 0, 4, 0, 28, 60, 0, 252, 508, 1023, 2047, 4095]
theorem notaryref32_Renumbered.tab9 : rtab .any (opsOf Try.f31 9) = notaryref32_Renumbered.T9 := by kernel_rfl
theorem notaryref32_Renumbered.bits9 : waitsOk notaryref32_Renumbered.T9.2 notaryref32_Renumbered.B9 = true := by kernel_rfl
set_option maxHeartbeats 8000000 in
set_option maxRecDepth 100000 in
theorem notaryref32_Renumbered.calls (k : Nat) : ∀ (a0_0 : Int) (a0_1 : Int) (a0_2 : ByteArray) (A0_3 : Option Addr) (c0_3 : Nat) (l0_3 : List (S24)) (a0_4 : Int) (a0_5 : Int) (A1 : Option Addr) (c1 : Nat) (l1 : List Int) (r1 : Int) (r2 : Int) (r3 : ByteArray) (r4 : List (S24)) (r5 : Int) (r6 : Int) (w : World) (hr0_3 : Kd.C k24 w A0_3 l0_3.length l0_3) (hc0_3 : l0_3.length ≤ c0_3) (hr1 : Kd.C (Kd.int .i64) w A1 l1.length l1) (hc1 : l1.length ≤ c1) (h : notaryref32_Renumbered.f k a0_0 a0_1 a0_2 l0_3 a0_4 a0_5 l1 = some (r1, r2, r3, r4, r5, r6)),
    Calls Try.prog 31 #[.agg #[.int .i64 a0_0, .int .i64 a0_1, .string a0_2, .slice A0_3 l0_3.length c0_3, .int .i64 a0_4, .int .i64 a0_5], .slice A1 l1.length c1] w fun e w' => ∃ v3_ : Value, e = .returned (.agg #[.int .i64 r1, .int .i64 r2, .string r3, v3_, .int .i64 r5, .int .i64 r6]) ∧ Kd.R k24 24 w' w.heap.size (fun _ => True) v3_ r4 ∧ Below w.heap.size w w' := by
  induction k using Nat.strongRecOn with
  | _ k ih =>
  intro a0_0 a0_1 a0_2 A0_3 c0_3 l0_3 a0_4 a0_5 A1 c1 l1 r1 r2 r3 r4 r5 r6 w hr0_3 hc0_3 hr1 hc1 h
  cases k with
  | zero => exact absurd h (by simp [notaryref32_Renumbered.f])
  | succ k =>
  simp only [notaryref32_Renumbered.f] at h
  have hu24 := Try.underlying24
  have HR0_3 := Aside0.mk hr0_3
  have HC0_3 := Aside0.mk hc0_3
  clear hr0_3 hc0_3
  have HR1 := Aside0.mk hr1
  have HC1 := Aside0.mk hc1
  clear hr1 hc1
  have HB := Aside0.mk (Below.refl w.heap.size w)
  have H : ((some (([] : List (S24)) : List (S24))).bind fun y159 => ((notaryref32_Named.f k a0_0 a0_1 a0_2 l0_3 a0_4 a0_5).bind fun t163 => (if t163 ≥ 0 then (notaryref32_Renumbered.j0 k l1 (a0_0 == 13) a0_0 a0_1 a0_2 l0_3 a0_4 a0_5 a0_0 a0_1 a0_2 y159 a0_4 a0_5) else (notaryref32_Renumbered.j0 k l1 false a0_0 a0_1 a0_2 l0_3 a0_4 a0_5 a0_0 a0_1 a0_2 y159 a0_4 a0_5)))) = some (r1, r2, r3, r4, r5, r6) := h
  clear h
  obtain ⟨y159, hy159⟩ : ∃ y_ : List (S24), y_ = (([] : List (S24))) := ⟨_, rfl⟩
  replace H : ((notaryref32_Named.f k a0_0 a0_1 a0_2 l0_3 a0_4 a0_5).bind fun t163 => (if t163 ≥ 0 then (notaryref32_Renumbered.j0 k l1 (a0_0 == 13) a0_0 a0_1 a0_2 l0_3 a0_4 a0_5 a0_0 a0_1 a0_2 y159 a0_4 a0_5) else (notaryref32_Renumbered.j0 k l1 false a0_0 a0_1 a0_2 l0_3 a0_4 a0_5 a0_0 a0_1 a0_2 y159 a0_4 a0_5))) = some (r1, r2, r3, r4, r5, r6) := by ((have H2_ := (Option.bind_some _ _).symm.trans H; rw [hy159]; with_reducible exact H2_))
  have Ny159 := Aside0.mk hy159
  clear hy159
  have HC3 := Aside0.mk H
  clear H
  go_enter Try.func31, Try.ntmps31
  go_upto_region 2 with (first | ((with_reducible refine gate_dst (N := 2) rfl ?_); refine box_event ?hg (N := 2) ?hd (cs := #[.int .i64 a0_0, .int .i64 a0_1, .string a0_2, .slice A0_3 l0_3.length c0_3, .int .i64 a0_4, .int .i64 a0_5]) (t := 24) ?hr ?_; (case hd => rfl); (case hg => rfl); (case hr => (go_simp; done)); intro gb157 hg w4 hbox hb; have n0_ := Aside0.mk (below_step HB.out hb); have n1_ := Aside0.mk (hbox); have n2_ := Aside0.mk ((by rw [hg]; exact (below_size HB.out) : w.heap.size ≤ gb157)); have n3_ := Aside0.mk ((by rw [hg]; exact (below_size HB.out) : w.heap.size ≤ gb157)); clear HB; have HB := n0_; have BK157 := n1_; have GW157 := n2_; have GE157 := n3_; clear n0_ n1_ n2_ n3_; clear hb hbox hg) | ((with_reducible refine gate_dst (N := 4) rfl ?_); refine box_event ?hg (N := 4) ?hd (cs := #[.int .i64 0, .int .i64 0, .string (⟨#[]⟩ : ByteArray), .slice none 0 0, .int .i64 0, .int .i64 0]) (t := 24) ?hr ?_; (case hd => rfl); (case hg => rfl); (case hr => (go_simp; done)); intro gb158 hg w5 hbox hb; have n0_ := Aside0.mk (blk_below (g := gb157) (o := .cells #[.int .i64 a0_0, .int .i64 a0_1, .string a0_2, .slice A0_3 l0_3.length c0_3, .int .i64 a0_4, .int .i64 a0_5] 24 (0, 0)) (by exact BK157.out) hb); have n1_ := Aside0.mk (below_step HB.out hb); have n2_ := Aside0.mk (hbox); have n3_ := Aside0.mk ((by rw [hg]; exact (below_size HB.out) : w.heap.size ≤ gb158)); have n4_ := Aside0.mk ((by rw [hg]; exact (below_size HB.out) : w.heap.size ≤ gb158)); have n5_ := Aside0.mk ((by rw [hg]; exact Nat.ne_of_lt (blk_lt (g := gb157) (o := .cells #[.int .i64 a0_0, .int .i64 a0_1, .string a0_2, .slice A0_3 l0_3.length c0_3, .int .i64 a0_4, .int .i64 a0_5] 24 (0, 0)) (by exact BK157.out)) : gb157 ≠ gb158)); have n6_ := Aside0.mk ((by rw [hg]; exact Nat.ne_of_gt (blk_lt (g := gb157) (o := .cells #[.int .i64 a0_0, .int .i64 a0_1, .string a0_2, .slice A0_3 l0_3.length c0_3, .int .i64 a0_4, .int .i64 a0_5] 24 (0, 0)) (by exact BK157.out)) : gb158 ≠ gb157)); clear BK157; clear HB; have BK157 := n0_; have HB := n1_; have BK158 := n2_; have GW158 := n3_; have GE158 := n4_; have NB157_158 := n5_; have NB158_157 := n6_; clear n0_ n1_ n2_ n3_ n4_ n5_ n6_; clear hb hbox hg; have hnb6 := NB157_158.out; have hnc6 := NB158_157.out; have hcz7_0 : w5.cell? ⟨gb157, 0, none⟩ = some (.int .i64 a0_0) := (blk_cell BK157.out 0).trans rfl; have hcz7_1 : w5.cell? ⟨gb157, 1, none⟩ = some (.int .i64 a0_1) := (blk_cell BK157.out 1).trans rfl; have hcz7_2 : w5.cell? ⟨gb157, 2, none⟩ = some (.string a0_2) := (blk_cell BK157.out 2).trans rfl; have hcz7_3 : w5.cell? ⟨gb157, 3, none⟩ = some (.slice A0_3 l0_3.length c0_3) := (blk_cell BK157.out 3).trans rfl; have hcz7_4 : w5.cell? ⟨gb157, 4, none⟩ = some (.int .i64 a0_4) := (blk_cell BK157.out 4).trans rfl; have hcz7_5 : w5.cell? ⟨gb157, 5, none⟩ = some (.int .i64 a0_5) := (blk_cell BK157.out 5).trans rfl; have hfz7_0 := blk_frozen BK157.out 0; have hfz7_1 := blk_frozen BK157.out 1; have hfz7_2 := blk_frozen BK157.out 2; have hfz7_3 := blk_frozen BK157.out 3; have hfz7_4 := blk_frozen BK157.out 4; have hfz7_5 := blk_frozen BK157.out 5) | ((with_reducible refine gate_dst (N := 13) rfl ?_); refine Kd.R_lit k24 _ 24 ?hg (N := 13) ?hd (xs := ([] : List (S24))) (inner := []) (ok := fun _ => True) (okp := fun _ => True) ?hr ?hp (fun _ hk => hk) trivial (Below.refl _ _) (Nat.le_refl _) (by simp) ?_; (case hd => rfl); (case hg => rfl); (case hr => (go_simp; done)); (case hp => exact (Reps.none _ _)); intro v160 w8 ho9 hb hg_ hnew_; clear hg_ hnew_; (rw [← Ny159.out] at ho9); have n0_ := Aside0.mk (Kd.R_lower (Kd.R_newB (Kd.R_newB ho9 (g := gb157) (o := .cells #[.int .i64 a0_0, .int .i64 a0_1, .string a0_2, .slice A0_3 l0_3.length c0_3, .int .i64 a0_4, .int .i64 a0_5] 24 (0, 0)) (by exact BK157.out)) (g := gb158) (o := .cells #[.int .i64 0, .int .i64 0, .string (⟨#[]⟩ : ByteArray), .slice none 0 0, .int .i64 0, .int .i64 0] 24 (0, 0)) (by exact BK158.out)) (below_size HB.out)); have n1_ := Aside0.mk (blk_below (g := gb157) (o := .cells #[.int .i64 a0_0, .int .i64 a0_1, .string a0_2, .slice A0_3 l0_3.length c0_3, .int .i64 a0_4, .int .i64 a0_5] 24 (0, 0)) (by exact BK157.out) hb); have n2_ := Aside0.mk (blk_below (g := gb158) (o := .cells #[.int .i64 0, .int .i64 0, .string (⟨#[]⟩ : ByteArray), .slice none 0 0, .int .i64 0, .int .i64 0] 24 (0, 0)) (by exact BK158.out) hb); have n3_ := Aside0.mk (below_step HB.out hb); clear BK157; clear BK158; clear HB; have HO161 := n0_; have BK157 := n1_; have BK158 := n2_; have HB := n3_; clear n0_ n1_ n2_ n3_; clear hb ho9; have hcz10_0 : w8.cell? ⟨gb157, 0, none⟩ = some (.int .i64 a0_0) := (blk_cell BK157.out 0).trans rfl; have hcz10_1 : w8.cell? ⟨gb157, 1, none⟩ = some (.int .i64 a0_1) := (blk_cell BK157.out 1).trans rfl; have hcz10_2 : w8.cell? ⟨gb157, 2, none⟩ = some (.string a0_2) := (blk_cell BK157.out 2).trans rfl; have hcz10_3 : w8.cell? ⟨gb157, 3, none⟩ = some (.slice A0_3 l0_3.length c0_3) := (blk_cell BK157.out 3).trans rfl; have hcz10_4 : w8.cell? ⟨gb157, 4, none⟩ = some (.int .i64 a0_4) := (blk_cell BK157.out 4).trans rfl; have hcz10_5 : w8.cell? ⟨gb157, 5, none⟩ = some (.int .i64 a0_5) := (blk_cell BK157.out 5).trans rfl; have hfz10_0 := blk_frozen BK157.out 0; have hfz10_1 := blk_frozen BK157.out 1; have hfz10_2 := blk_frozen BK157.out 2; have hfz10_3 := blk_frozen BK157.out 3; have hfz10_4 := blk_frozen BK157.out 4; have hfz10_5 := blk_frozen BK157.out 5; obtain ⟨Ao11, co11, eo11⟩ := Kd.R_slice HO161.out; subst eo11) | ((with_reducible refine gate_dst (N := 5) rfl ?_); refine box_event ?hg (N := 5) ?hd (cs := #[.int .i64 0, .int .i64 0, .string (⟨#[]⟩ : ByteArray), .slice none 0 0, .int .i64 0, .int .i64 0]) (t := 24) ?hr ?_; (case hd => rfl); (case hg => rfl); (case hr => (go_simp; done)); intro gb162 hg w12 hbox hb; have n0_ := Aside0.mk (Kd.R_below (Kd.R_elderB (by exact HO161.out) gb162 (Nat.le_of_eq hg.symm)) hb); have n1_ := Aside0.mk (blk_below (g := gb157) (o := .cells #[.int .i64 a0_0, .int .i64 a0_1, .string a0_2, .slice A0_3 l0_3.length c0_3, .int .i64 a0_4, .int .i64 a0_5] 24 (0, 0)) (by exact BK157.out) hb); have n2_ := Aside0.mk (blk_below (g := gb158) (o := .cells #[.int .i64 0, .int .i64 0, .string (⟨#[]⟩ : ByteArray), .slice none 0 0, .int .i64 0, .int .i64 0] 24 (0, 0)) (by exact BK158.out) hb); have n3_ := Aside0.mk (below_step HB.out hb); have n4_ := Aside0.mk (hbox); have n5_ := Aside0.mk ((by rw [hg]; exact (below_size HB.out) : w.heap.size ≤ gb162)); have n6_ := Aside0.mk ((by rw [hg]; exact (below_size HB.out) : w.heap.size ≤ gb162)); have n7_ := Aside0.mk ((by rw [hg]; exact Nat.ne_of_lt (blk_lt (g := gb157) (o := .cells #[.int .i64 a0_0, .int .i64 a0_1, .string a0_2, .slice A0_3 l0_3.length c0_3, .int .i64 a0_4, .int .i64 a0_5] 24 (0, 0)) (by exact BK157.out)) : gb157 ≠ gb162)); have n8_ := Aside0.mk ((by rw [hg]; exact Nat.ne_of_gt (blk_lt (g := gb157) (o := .cells #[.int .i64 a0_0, .int .i64 a0_1, .string a0_2, .slice A0_3 l0_3.length c0_3, .int .i64 a0_4, .int .i64 a0_5] 24 (0, 0)) (by exact BK157.out)) : gb162 ≠ gb157)); have n9_ := Aside0.mk ((by rw [hg]; exact Nat.ne_of_lt (blk_lt (g := gb158) (o := .cells #[.int .i64 0, .int .i64 0, .string (⟨#[]⟩ : ByteArray), .slice none 0 0, .int .i64 0, .int .i64 0] 24 (0, 0)) (by exact BK158.out)) : gb158 ≠ gb162)); have n10_ := Aside0.mk ((by rw [hg]; exact Nat.ne_of_gt (blk_lt (g := gb158) (o := .cells #[.int .i64 0, .int .i64 0, .string (⟨#[]⟩ : ByteArray), .slice none 0 0, .int .i64 0, .int .i64 0] 24 (0, 0)) (by exact BK158.out)) : gb162 ≠ gb158)); clear HO161; clear BK157; clear BK158; clear HB; have HO161 := n0_; have BK157 := n1_; have BK158 := n2_; have HB := n3_; have BK162 := n4_; have GW162 := n5_; have GE162 := n6_; have NB157_162 := n7_; have NB162_157 := n8_; have NB158_162 := n9_; have NB162_158 := n10_; clear n0_ n1_ n2_ n3_ n4_ n5_ n6_ n7_ n8_ n9_ n10_; clear hb hbox hg; have hnb13 := NB162_157.out; have hnc13 := NB157_162.out; have hnb14 := NB162_158.out; have hnc14 := NB158_162.out; have hcz15_0 : w12.cell? ⟨gb162, 0, none⟩ = some (.int .i64 0) := (blk_cell BK162.out 0).trans rfl; have hcz15_1 : w12.cell? ⟨gb162, 1, none⟩ = some (.int .i64 0) := (blk_cell BK162.out 1).trans rfl; have hcz15_2 : w12.cell? ⟨gb162, 2, none⟩ = some (.string (⟨#[]⟩ : ByteArray)) := (blk_cell BK162.out 2).trans rfl; have hcz15_3 : w12.cell? ⟨gb162, 3, none⟩ = some (.slice none 0 0) := (blk_cell BK162.out 3).trans rfl; have hcz15_4 : w12.cell? ⟨gb162, 4, none⟩ = some (.int .i64 0) := (blk_cell BK162.out 4).trans rfl; have hcz15_5 : w12.cell? ⟨gb162, 5, none⟩ = some (.int .i64 0) := (blk_cell BK162.out 5).trans rfl; have hfz15_0 := blk_frozen BK162.out 0; have hfz15_1 := blk_frozen BK162.out 1; have hfz15_2 := blk_frozen BK162.out 2; have hfz15_3 := blk_frozen BK162.out 3; have hfz15_4 := blk_frozen BK162.out 4; have hfz15_5 := blk_frozen BK162.out 5))
  (skip)
  go_cut [26] (fun v26 wc => ∃ (kq : Nat) (x26_2 : Bool), v26 = .bool x26_2 ∧ Aside0 (notaryref32_Renumbered.j0 kq l1 x26_2 a0_0 a0_1 a0_2 l0_3 a0_4 a0_5 a0_0 a0_1 a0_2 y159 a0_4 a0_5 = some (r1, r2, r3, r4, r5, r6)) ∧ Aside0 (kq ≤ k) ∧ Aside0 (Kd.R k24 24 wc w.heap.size (fun k_ => k_ ≠ gb157 ∧ k_ ≠ gb158 ∧ k_ ≠ gb162) (.slice Ao11 y159.length co11) y159) ∧ Aside0 (wc.heap[gb157]? = some (.cells #[.int .i64 a0_0, .int .i64 a0_1, .string a0_2, (.slice A0_3 l0_3.length c0_3), .int .i64 a0_4, .int .i64 a0_5] 24 (0, 0))) ∧ Aside0 (wc.heap[gb158]? = some (.cells #[.int .i64 0, .int .i64 0, .string (⟨#[]⟩ : ByteArray), (.slice none 0 0), .int .i64 0, .int .i64 0] 24 (0, 0))) ∧ Aside0 (wc.heap[gb162]? = some (.cells #[.int .i64 a0_0, .int .i64 a0_1, .string a0_2, (.slice Ao11 y159.length co11), .int .i64 a0_4, .int .i64 a0_5] 24 (0, 0))) ∧ Aside0 (Below w.heap.size w wc))
  case first =>
    have H := HC3.out
    clear HC3
    replace H := Option.bind_eq_some_iff.mp H
    obtain ⟨t163, A160, H⟩ := H
    replace H : (if t163 ≥ 0 then (notaryref32_Renumbered.j0 k l1 (a0_0 == 13) a0_0 a0_1 a0_2 l0_3 a0_4 a0_5 a0_0 a0_1 a0_2 y159 a0_4 a0_5) else (notaryref32_Renumbered.j0 k l1 false a0_0 a0_1 a0_2 l0_3 a0_4 a0_5 a0_0 a0_1 a0_2 y159 a0_4 a0_5)) = some (r1, r2, r3, r4, r5, r6) := H
    have A16 := Aside0.mk A160
    clear A160
    by_cases c17 : t163 ≥ 0
    rotate_left
    · rw [if_neg c17] at H
      have c17b0 : decide (0 ≤ t163) = false := decide_eq_false c17
      clear c17
      (skip)
      have H' := Aside0.mk H
      clear H
      have hnb23 := NB157_158.out
      have hnc23 := NB158_157.out
      have hnb24 := NB157_162.out
      have hnc24 := NB162_157.out
      have hcz25_0 : w12.cell? ⟨gb157, 0, none⟩ = some (.int .i64 a0_0) := (blk_cell BK157.out 0).trans rfl
      have hcz25_1 : w12.cell? ⟨gb157, 1, none⟩ = some (.int .i64 a0_1) := (blk_cell BK157.out 1).trans rfl
      have hcz25_2 : w12.cell? ⟨gb157, 2, none⟩ = some (.string a0_2) := (blk_cell BK157.out 2).trans rfl
      have hcz25_3 : w12.cell? ⟨gb157, 3, none⟩ = some (.slice A0_3 l0_3.length c0_3) := (blk_cell BK157.out 3).trans rfl
      have hcz25_4 : w12.cell? ⟨gb157, 4, none⟩ = some (.int .i64 a0_4) := (blk_cell BK157.out 4).trans rfl
      have hcz25_5 : w12.cell? ⟨gb157, 5, none⟩ = some (.int .i64 a0_5) := (blk_cell BK157.out 5).trans rfl
      have hfz25_0 := blk_frozen BK157.out 0
      have hfz25_1 := blk_frozen BK157.out 1
      have hfz25_2 := blk_frozen BK157.out 2
      have hfz25_3 := blk_frozen BK157.out 3
      have hfz25_4 := blk_frozen BK157.out 4
      have hfz25_5 := blk_frozen BK157.out 5
      go_wp2_with ((((with_reducible refine gate_callee (f := 39) rfl ?_); refine goesL_ (some 20) rfl rfl Try.func39 (by kernel_rfl) rfl #[.agg #[.int .i64 a0_0, .int .i64 a0_1, .string a0_2, .slice A0_3 l0_3.length c0_3, .int .i64 a0_4, .int .i64 a0_5]] rfl (by (try simp only [List.map_toArray, List.map_cons, List.map_nil]); (rfl)) ?_; (with_reducible refine (notaryref32_Named.calls k a0_0 a0_1 a0_2 _ _ l0_3 a0_4 a0_5 t163 _ ?side1 ?side2 A16.out).mono ?_); (case side1 => exact Kd.C_below HR0_3.out (by repeat (with_reducible first | exact HB.out | refine below_set ?_ GE162.out))); (case side2 => exact HC0_3.out); rintro e w26 ⟨rfl, hb⟩; refine ⟨_, rfl, ?_⟩; have n0_ := Aside0.mk (Kd.R_below (by exact (Kd.R_mono (Kd.R_far (p := ⟨gb162, 5, none⟩) (Kd.R_far (p := ⟨gb162, 4, none⟩) (Kd.R_far (p := ⟨gb162, 3, none⟩) (Kd.R_far (p := ⟨gb162, 2, none⟩) (Kd.R_far (p := ⟨gb162, 1, none⟩) (Kd.R_far (p := ⟨gb162, 0, none⟩) (Kd.R_mono HO161.out (fun k_ hk => (⟨hk, hk.2⟩ : _ ∧ k_ ≠ gb162))) (fun _ hk => hk.2) (.int .i64 a0_0)) (fun _ hk => hk.2) (.int .i64 a0_1)) (fun _ hk => hk.2) (.string a0_2)) (fun _ hk => hk.2) (.slice Ao11 y159.length co11)) (fun _ hk => hk.2) (.int .i64 a0_4)) (fun _ hk => hk.2) (.int .i64 a0_5)) (fun _ h_ => h_.1))) hb); have n1_ := Aside0.mk (blk_below (g := gb157) (o := .cells #[.int .i64 a0_0, .int .i64 a0_1, .string a0_2, .slice A0_3 l0_3.length c0_3, .int .i64 a0_4, .int .i64 a0_5] 24 (0, 0)) (by refine blk_far ?_ NB157_162.out _; refine blk_far ?_ NB157_162.out _; refine blk_far ?_ NB157_162.out _; refine blk_far ?_ NB157_162.out _; refine blk_far ?_ NB157_162.out _; refine blk_far ?_ NB157_162.out _; exact BK157.out) hb); have n2_ := Aside0.mk (blk_below (g := gb158) (o := .cells #[.int .i64 0, .int .i64 0, .string (⟨#[]⟩ : ByteArray), .slice none 0 0, .int .i64 0, .int .i64 0] 24 (0, 0)) (by refine blk_far ?_ NB158_162.out _; refine blk_far ?_ NB158_162.out _; refine blk_far ?_ NB158_162.out _; refine blk_far ?_ NB158_162.out _; refine blk_far ?_ NB158_162.out _; refine blk_far ?_ NB158_162.out _; exact BK158.out) hb); have n3_ := Aside0.mk (blk_below (g := gb162) (o := .cells #[.int .i64 a0_0, .int .i64 a0_1, .string a0_2, .slice Ao11 y159.length co11, .int .i64 a0_4, .int .i64 a0_5] 24 (0, 0)) (by refine blk_put (cs := #[.int .i64 a0_0, .int .i64 a0_1, .string a0_2, .slice Ao11 y159.length co11, .int .i64 a0_4, .int .i64 0]) ?_ 5 _ rfl; refine blk_put (cs := #[.int .i64 a0_0, .int .i64 a0_1, .string a0_2, .slice Ao11 y159.length co11, .int .i64 0, .int .i64 0]) ?_ 4 _ rfl; refine blk_put (cs := #[.int .i64 a0_0, .int .i64 a0_1, .string a0_2, .slice none 0 0, .int .i64 0, .int .i64 0]) ?_ 3 _ rfl; refine blk_put (cs := #[.int .i64 a0_0, .int .i64 a0_1, .string (⟨#[]⟩ : ByteArray), .slice none 0 0, .int .i64 0, .int .i64 0]) ?_ 2 _ rfl; refine blk_put (cs := #[.int .i64 a0_0, .int .i64 0, .string (⟨#[]⟩ : ByteArray), .slice none 0 0, .int .i64 0, .int .i64 0]) ?_ 1 _ rfl; refine blk_put (cs := #[.int .i64 0, .int .i64 0, .string (⟨#[]⟩ : ByteArray), .slice none 0 0, .int .i64 0, .int .i64 0]) ?_ 0 _ rfl; exact BK162.out) hb); have n4_ := Aside0.mk (below_step (by repeat (with_reducible first | exact HB.out | refine below_set ?_ GE162.out)) hb); clear HO161; clear BK157; clear BK158; clear BK162; clear HB; have HO161 := n0_; have BK157 := n1_; have BK158 := n2_; have BK162 := n3_; have HB := n4_; clear n0_ n1_ n2_ n3_ n4_; (try clear hb); (skip))))
      go_meet
      case rel => exact ⟨_, (false), (by (rfl)), H', ⟨by (omega)⟩, ⟨by exact Kd.R_mono HO161.out (fun _ hk => ⟨hk.1.1.2, ⟨hk.1.2, hk.2⟩⟩)⟩, ⟨by exact BK157.out⟩, ⟨by exact BK158.out⟩, ⟨by exact BK162.out⟩, ⟨HB.out⟩⟩
    rw [if_pos c17] at H
    have c17b0 : decide (0 ≤ t163) = true := decide_eq_true c17
    clear c17
    (skip)
    have H' := Aside0.mk H
    clear H
    have hnb18 := NB157_158.out
    have hnc18 := NB158_157.out
    have hnb19 := NB157_162.out
    have hnc19 := NB162_157.out
    have hcz20_0 : w12.cell? ⟨gb157, 0, none⟩ = some (.int .i64 a0_0) := (blk_cell BK157.out 0).trans rfl
    have hcz20_1 : w12.cell? ⟨gb157, 1, none⟩ = some (.int .i64 a0_1) := (blk_cell BK157.out 1).trans rfl
    have hcz20_2 : w12.cell? ⟨gb157, 2, none⟩ = some (.string a0_2) := (blk_cell BK157.out 2).trans rfl
    have hcz20_3 : w12.cell? ⟨gb157, 3, none⟩ = some (.slice A0_3 l0_3.length c0_3) := (blk_cell BK157.out 3).trans rfl
    have hcz20_4 : w12.cell? ⟨gb157, 4, none⟩ = some (.int .i64 a0_4) := (blk_cell BK157.out 4).trans rfl
    have hcz20_5 : w12.cell? ⟨gb157, 5, none⟩ = some (.int .i64 a0_5) := (blk_cell BK157.out 5).trans rfl
    have hfz20_0 := blk_frozen BK157.out 0
    have hfz20_1 := blk_frozen BK157.out 1
    have hfz20_2 := blk_frozen BK157.out 2
    have hfz20_3 := blk_frozen BK157.out 3
    have hfz20_4 := blk_frozen BK157.out 4
    have hfz20_5 := blk_frozen BK157.out 5
    go_wp2_with ((((with_reducible refine gate_callee (f := 39) rfl ?_); refine goesL_ (some 20) rfl rfl Try.func39 (by kernel_rfl) rfl #[.agg #[.int .i64 a0_0, .int .i64 a0_1, .string a0_2, .slice A0_3 l0_3.length c0_3, .int .i64 a0_4, .int .i64 a0_5]] rfl (by (try simp only [List.map_toArray, List.map_cons, List.map_nil]); (rfl)) ?_; (with_reducible refine (notaryref32_Named.calls k a0_0 a0_1 a0_2 _ _ l0_3 a0_4 a0_5 t163 _ ?side1 ?side2 A16.out).mono ?_); (case side1 => exact Kd.C_below HR0_3.out (by repeat (with_reducible first | exact HB.out | refine below_set ?_ GE162.out))); (case side2 => exact HC0_3.out); rintro e w21 ⟨rfl, hb⟩; refine ⟨_, rfl, ?_⟩; have n0_ := Aside0.mk (Kd.R_below (by exact (Kd.R_mono (Kd.R_far (p := ⟨gb162, 5, none⟩) (Kd.R_far (p := ⟨gb162, 4, none⟩) (Kd.R_far (p := ⟨gb162, 3, none⟩) (Kd.R_far (p := ⟨gb162, 2, none⟩) (Kd.R_far (p := ⟨gb162, 1, none⟩) (Kd.R_far (p := ⟨gb162, 0, none⟩) (Kd.R_mono HO161.out (fun k_ hk => (⟨hk, hk.2⟩ : _ ∧ k_ ≠ gb162))) (fun _ hk => hk.2) (.int .i64 a0_0)) (fun _ hk => hk.2) (.int .i64 a0_1)) (fun _ hk => hk.2) (.string a0_2)) (fun _ hk => hk.2) (.slice Ao11 y159.length co11)) (fun _ hk => hk.2) (.int .i64 a0_4)) (fun _ hk => hk.2) (.int .i64 a0_5)) (fun _ h_ => h_.1))) hb); have n1_ := Aside0.mk (blk_below (g := gb157) (o := .cells #[.int .i64 a0_0, .int .i64 a0_1, .string a0_2, .slice A0_3 l0_3.length c0_3, .int .i64 a0_4, .int .i64 a0_5] 24 (0, 0)) (by refine blk_far ?_ NB157_162.out _; refine blk_far ?_ NB157_162.out _; refine blk_far ?_ NB157_162.out _; refine blk_far ?_ NB157_162.out _; refine blk_far ?_ NB157_162.out _; refine blk_far ?_ NB157_162.out _; exact BK157.out) hb); have n2_ := Aside0.mk (blk_below (g := gb158) (o := .cells #[.int .i64 0, .int .i64 0, .string (⟨#[]⟩ : ByteArray), .slice none 0 0, .int .i64 0, .int .i64 0] 24 (0, 0)) (by refine blk_far ?_ NB158_162.out _; refine blk_far ?_ NB158_162.out _; refine blk_far ?_ NB158_162.out _; refine blk_far ?_ NB158_162.out _; refine blk_far ?_ NB158_162.out _; refine blk_far ?_ NB158_162.out _; exact BK158.out) hb); have n3_ := Aside0.mk (blk_below (g := gb162) (o := .cells #[.int .i64 a0_0, .int .i64 a0_1, .string a0_2, .slice Ao11 y159.length co11, .int .i64 a0_4, .int .i64 a0_5] 24 (0, 0)) (by refine blk_put (cs := #[.int .i64 a0_0, .int .i64 a0_1, .string a0_2, .slice Ao11 y159.length co11, .int .i64 a0_4, .int .i64 0]) ?_ 5 _ rfl; refine blk_put (cs := #[.int .i64 a0_0, .int .i64 a0_1, .string a0_2, .slice Ao11 y159.length co11, .int .i64 0, .int .i64 0]) ?_ 4 _ rfl; refine blk_put (cs := #[.int .i64 a0_0, .int .i64 a0_1, .string a0_2, .slice none 0 0, .int .i64 0, .int .i64 0]) ?_ 3 _ rfl; refine blk_put (cs := #[.int .i64 a0_0, .int .i64 a0_1, .string (⟨#[]⟩ : ByteArray), .slice none 0 0, .int .i64 0, .int .i64 0]) ?_ 2 _ rfl; refine blk_put (cs := #[.int .i64 a0_0, .int .i64 0, .string (⟨#[]⟩ : ByteArray), .slice none 0 0, .int .i64 0, .int .i64 0]) ?_ 1 _ rfl; refine blk_put (cs := #[.int .i64 0, .int .i64 0, .string (⟨#[]⟩ : ByteArray), .slice none 0 0, .int .i64 0, .int .i64 0]) ?_ 0 _ rfl; exact BK162.out) hb); have n4_ := Aside0.mk (below_step (by repeat (with_reducible first | exact HB.out | refine below_set ?_ GE162.out)) hb); clear HO161; clear BK157; clear BK158; clear BK162; clear HB; have HO161 := n0_; have BK157 := n1_; have BK158 := n2_; have BK162 := n3_; have HB := n4_; clear n0_ n1_ n2_ n3_ n4_; (try clear hb); have hcz22_0 : w21.cell? ⟨gb157, 0, none⟩ = some (.int .i64 a0_0) := (blk_cell BK157.out 0).trans rfl; have hcz22_1 : w21.cell? ⟨gb157, 1, none⟩ = some (.int .i64 a0_1) := (blk_cell BK157.out 1).trans rfl; have hcz22_2 : w21.cell? ⟨gb157, 2, none⟩ = some (.string a0_2) := (blk_cell BK157.out 2).trans rfl; have hcz22_3 : w21.cell? ⟨gb157, 3, none⟩ = some (.slice A0_3 l0_3.length c0_3) := (blk_cell BK157.out 3).trans rfl; have hcz22_4 : w21.cell? ⟨gb157, 4, none⟩ = some (.int .i64 a0_4) := (blk_cell BK157.out 4).trans rfl; have hcz22_5 : w21.cell? ⟨gb157, 5, none⟩ = some (.int .i64 a0_5) := (blk_cell BK157.out 5).trans rfl; have hfz22_0 := blk_frozen BK157.out 0; have hfz22_1 := blk_frozen BK157.out 1; have hfz22_2 := blk_frozen BK157.out 2; have hfz22_3 := blk_frozen BK157.out 3; have hfz22_4 := blk_frozen BK157.out 4; have hfz22_5 := blk_frozen BK157.out 5)))
    go_meet
    case rel => exact ⟨_, (a0_0 == 13), (by (rfl)), H', ⟨by (omega)⟩, ⟨by exact Kd.R_mono HO161.out (fun _ hk => ⟨hk.1.1.2, ⟨hk.1.2, hk.2⟩⟩)⟩, ⟨by exact BK157.out⟩, ⟨by exact BK158.out⟩, ⟨by exact BK162.out⟩, ⟨HB.out⟩⟩
  clear HC3
  try clear hcz10_0
  try clear hcz10_1
  try clear hcz10_2
  try clear hcz10_3
  try clear hcz10_4
  try clear hcz10_5
  try clear hcz15_0
  try clear hcz15_1
  try clear hcz15_2
  try clear hcz15_3
  try clear hcz15_4
  try clear hcz15_5
  try clear hcz7_0
  try clear hcz7_1
  try clear hcz7_2
  try clear hcz7_3
  try clear hcz7_4
  try clear hcz7_5
  try clear hfz10_0
  try clear hfz10_1
  try clear hfz10_2
  try clear hfz10_3
  try clear hfz10_4
  try clear hfz10_5
  try clear hfz15_0
  try clear hfz15_1
  try clear hfz15_2
  try clear hfz15_3
  try clear hfz15_4
  try clear hfz15_5
  try clear hfz7_0
  try clear hfz7_1
  try clear hfz7_2
  try clear hfz7_3
  try clear hfz7_4
  try clear hfz7_5
  obtain ⟨kq, x26_2, rfl, HA, HJ2, HO_163003, BK157, BK158, BK162, HB⟩ := hcut
  rcases kq with _ | kj2
  · exact absurd HA.out (by simp [notaryref32_Renumbered.j0])
  have H := HA.out
  clear HA
  simp only [notaryref32_Renumbered.j0] at H
  have HC27 := Aside0.mk H
  clear H
  go_upto_if 26 with (fail)
  go_cut [] (fun wc => ∃ (kq : Nat) (x163001_26 : Int), Aside0 (notaryref32_Renumbered.j1 kq l1 a0_0 a0_1 a0_2 l0_3 a0_4 a0_5 a0_0 x163001_26 a0_2 y159 a0_4 a0_5 = some (r1, r2, r3, r4, r5, r6)) ∧ Aside0 (kq ≤ kj2) ∧ Aside0 (Kd.R k24 24 wc w.heap.size (fun k_ => k_ ≠ gb157 ∧ k_ ≠ gb158 ∧ k_ ≠ gb162) (.slice Ao11 y159.length co11) y159) ∧ Aside0 (wc.heap[gb157]? = some (.cells #[.int .i64 a0_0, .int .i64 a0_1, .string a0_2, (.slice A0_3 l0_3.length c0_3), .int .i64 a0_4, .int .i64 a0_5] 24 (0, 0))) ∧ Aside0 (wc.heap[gb158]? = some (.cells #[.int .i64 0, .int .i64 0, .string (⟨#[]⟩ : ByteArray), (.slice none 0 0), .int .i64 0, .int .i64 0] 24 (0, 0))) ∧ Aside0 (wc.heap[gb162]? = some (.cells #[.int .i64 a0_0, .int .i64 x163001_26, .string a0_2, (.slice Ao11 y159.length co11), .int .i64 a0_4, .int .i64 a0_5] 24 (0, 0))) ∧ Aside0 (Below w.heap.size w wc))
  case first =>
    have H := HC27.out
    clear HC27
    by_cases c28 : x26_2 = true
    · subst c28
      have H1 : ((notaryref32_Named.f kj2 a0_0 a0_1 a0_2 l0_3 a0_4 a0_5).bind fun t164 => ((notaryref32_Place.f l1 t164).bind fun t165 => (notaryref32_Renumbered.j1 kj2 l1 a0_0 a0_1 a0_2 l0_3 a0_4 a0_5 a0_0 (wrap64 ((wrap64 (t165 * 64)) + (Int.tmod a0_1 64))) a0_2 y159 a0_4 a0_5))) = some (r1, r2, r3, r4, r5, r6) := by rw [if_pos rfl] at H; exact H
      clear H
      have H := H1
      clear H1
      replace H := Option.bind_eq_some_iff.mp H
      obtain ⟨t164, A290, H⟩ := H
      replace H : ((notaryref32_Place.f l1 t164).bind fun t165 => (notaryref32_Renumbered.j1 kj2 l1 a0_0 a0_1 a0_2 l0_3 a0_4 a0_5 a0_0 (wrap64 ((wrap64 (t165 * 64)) + (Int.tmod a0_1 64))) a0_2 y159 a0_4 a0_5)) = some (r1, r2, r3, r4, r5, r6) := H
      have A29 := Aside0.mk A290
      clear A290
      replace H := Option.bind_eq_some_iff.mp H
      obtain ⟨t165, A300, H⟩ := H
      replace H : (notaryref32_Renumbered.j1 kj2 l1 a0_0 a0_1 a0_2 l0_3 a0_4 a0_5 a0_0 (wrap64 ((wrap64 (t165 * 64)) + (Int.tmod a0_1 64))) a0_2 y159 a0_4 a0_5) = some (r1, r2, r3, r4, r5, r6) := H
      have A30 := Aside0.mk A300
      clear A300
      have H' := Aside0.mk H
      clear H
      try go_wp2
      have n0_ := Aside0.mk (Kd.R_drew HO_163003.out)
      have n1_ := Aside0.mk (blk_drew BK157.out)
      have n2_ := Aside0.mk (blk_drew BK158.out)
      have n3_ := Aside0.mk (blk_drew BK162.out)
      have n4_ := Aside0.mk (below_drew1 HB.out)
      clear HO_163003
      clear BK157
      clear BK158
      clear BK162
      clear HB
      have HO_163003 := n0_
      have BK157 := n1_
      have BK158 := n2_
      have BK162 := n3_
      have HB := n4_
      clear n0_ n1_ n2_ n3_ n4_
      refine start_ (n := 11) (S := fun w' => w'.cell? ⟨gb157, 0, none⟩ = some (.int .i64 a0_0) ∧ w'.cell? ⟨gb157, 1, none⟩ = some (.int .i64 a0_1) ∧ w'.cell? ⟨gb157, 2, none⟩ = some (.string a0_2) ∧ w'.cell? ⟨gb157, 3, none⟩ = some (.slice A0_3 l0_3.length c0_3) ∧ w'.cell? ⟨gb157, 4, none⟩ = some (.int .i64 a0_4) ∧ w'.cell? ⟨gb157, 5, none⟩ = some (.int .i64 a0_5)) (ds := []) (bl 11 0) (by kernel_rfl) rfl rfl ⟨(blk_cell BK157.out 0).trans rfl, (blk_cell BK157.out 1).trans rfl, (blk_cell BK157.out 2).trans rfl, (blk_cell BK157.out 3).trans rfl, (blk_cell BK157.out 4).trans rfl, (blk_cell BK157.out 5).trans rfl⟩ (fun hHeld => ?_); refine with_tabW notaryref32_Renumbered.tab3 notaryref32_Renumbered.bits3 (fun HT_ HW_ => ?_)
      generalize wc.drew = w31 at HO_163003 BK157 BK158 BK162 HB hHeld ⊢
      refine pure_ (i := 0) (N := some 27) (v := ?_) (a' := ?_) (bl 11 1) rfl rfl (any_of HT_.out (by kernel_rfl)) (fun _ _ _ h => h) (Or.inl ⟨by rfl, ?_⟩) ?_ ?_
      rotate_left
      · intro w'; go_simp; with_reducible rfl
      rotate_left
      · simp only [Act.put, sa_, sz_, ss_, i64_w, i32_w]; rfl
      refine pure_ (i := 5) (N := some 32) (v := ?_) (a' := ?_) (bl 11 33) rfl rfl (any_of HT_.out (by kernel_rfl)) (fun _ _ _ h => h) (Or.inl ⟨by rfl, ?_⟩) ?_ ?_
      rotate_left
      · intro w'; go_simp; with_reducible rfl
      rotate_left
      · simp only [Act.put, sa_, sz_, ss_, i64_w, i32_w]; rfl
      refine take_ (i := 1) (N := some 28) (v := ?_) (a' := ?_) (bl 11 35) rfl rfl (take_ofW HT_.out HW_.out (by kernel_rfl)) (fun _ _ _ h => h) (Or.inl ⟨by rfl, ?_⟩) hHeld ?_ ?_
      rotate_left
      · rintro w' ⟨s0, s1, s2, s3, s4, s5⟩
        go_simp
        with_reducible rfl
      rotate_left
      · simp only [Act.put, sa_, sz_, ss_, i64_w, i32_w]; rfl
      refine take_ (i := 6) (N := some 33) (v := ?_) (a' := ?_) (bl 11 99) rfl rfl (take_ofW HT_.out HW_.out (by kernel_rfl)) (fun _ _ _ h => h) (Or.inl ⟨by rfl, ?_⟩) hHeld ?_ ?_
      rotate_left
      · rintro w' ⟨s0, s1, s2, s3, s4, s5⟩
        go_simp
        with_reducible rfl
      rotate_left
      · simp only [Act.put, sa_, sz_, ss_, i64_w, i32_w]; rfl
      refine pure_ (i := 7) (N := some 34) (v := ?_) (a' := ?_) (bl 11 227) rfl rfl (any_of HT_.out (by kernel_rfl)) (fun _ _ _ h => h) (Or.inl ⟨by rfl, ?_⟩) ?_ ?_
      rotate_left
      · intro w'; go_simp; with_reducible rfl
      rotate_left
      · simp only [Act.put, sa_, sz_, ss_, i64_w, i32_w]; rfl
      refine one_ (i := 2) (N := some 29) (bl 11 231) rfl rfl (one_of HT_.out (by kernel_rfl)) (by decide) (fun K hK => ?_)
      refine goes_ Try.func39 (by kernel_rfl) rfl #[.agg #[.int .i64 a0_0, .int .i64 a0_1, .string a0_2, .slice A0_3 l0_3.length c0_3, .int .i64 a0_4, .int .i64 a0_5]] (by rfl) rfl rfl (by (try simp only [List.map_toArray, List.map_cons, List.map_nil]); (rfl)) ?_
      with_reducible refine (notaryref32_Named.calls kj2 a0_0 a0_1 a0_2 _ _ l0_3 a0_4 a0_5 t164 _ ?side1 ?side2 A29.out).mono ?_
      (case side1 => exact Kd.C_below HR0_3.out HB.out)
      (case side2 => exact HC0_3.out)
      rintro e w32 ⟨rfl, hb⟩
      refine ⟨_, rfl, ?_⟩
      have n0_ := Aside0.mk (Kd.R_below (by exact HO_163003.out) hb)
      have n1_ := Aside0.mk (blk_below (g := gb157) (o := .cells #[.int .i64 a0_0, .int .i64 a0_1, .string a0_2, .slice A0_3 l0_3.length c0_3, .int .i64 a0_4, .int .i64 a0_5] 24 (0, 0)) (by exact BK157.out) hb)
      have n2_ := Aside0.mk (blk_below (g := gb158) (o := .cells #[.int .i64 0, .int .i64 0, .string (⟨#[]⟩ : ByteArray), .slice none 0 0, .int .i64 0, .int .i64 0] 24 (0, 0)) (by exact BK158.out) hb)
      have n3_ := Aside0.mk (blk_below (g := gb162) (o := .cells #[.int .i64 a0_0, .int .i64 a0_1, .string a0_2, .slice Ao11 y159.length co11, .int .i64 a0_4, .int .i64 a0_5] 24 (0, 0)) (by exact BK162.out) hb)
      have n4_ := Aside0.mk (below_step HB.out hb)
      clear HO_163003
      clear BK157
      clear BK158
      clear BK162
      clear HB
      have HO_163003 := n0_
      have BK157 := n1_
      have BK158 := n2_
      have BK162 := n3_
      have HB := n4_
      clear n0_ n1_ n2_ n3_ n4_
      (try clear hb)
      (skip)
      (skip)
      (skip)
      refine hK.out _ _ ⟨(blk_cell BK157.out 0).trans rfl, (blk_cell BK157.out 1).trans rfl, (blk_cell BK157.out 2).trans rfl, (blk_cell BK157.out 3).trans rfl, (blk_cell BK157.out 4).trans rfl, (blk_cell BK157.out 5).trans rfl⟩ (fun hHeld => ?_)
      clear hK K
      refine norm_ (a' := ?_) ?_ ?_
      rotate_left
      · show Act.put _ (some 29) _ = _
        simp only [Act.put, sa_, sz_, ss_, i64_w, i32_w]
        rfl
      refine one_ (i := 3) (N := some 30) (bl 11 239) rfl rfl (one_of HT_.out (by kernel_rfl)) (by decide) (fun K hK => ?_)
      refine goes_ Try.func40 (by kernel_rfl) rfl #[.slice A1 l1.length c1, .int .i64 t164] (by rfl) rfl rfl (by (try simp only [List.map_toArray, List.map_cons, List.map_nil]); (rfl)) ?_
      with_reducible refine (notaryref32_Place.calls _ _ l1 t164 t165 _ ?side1 ?side2 A30.out).mono ?_
      (case side1 => exact Kd.C_below HR1.out HB.out)
      (case side2 => exact HC1.out)
      rintro e w' ⟨rfl, ⟨nd, rfl⟩⟩
      refine ⟨_, rfl, ?_⟩
      refine hK.out _ _ ⟨(blk_cell BK157.out 0).trans rfl, (blk_cell BK157.out 1).trans rfl, (blk_cell BK157.out 2).trans rfl, (blk_cell BK157.out 3).trans rfl, (blk_cell BK157.out 4).trans rfl, (blk_cell BK157.out 5).trans rfl⟩ (fun hHeld => ?_)
      clear hK K
      refine norm_ (a' := ?_) ?_ ?_
      rotate_left
      · show Act.put _ (some 30) _ = _
        simp only [Act.put, sa_, sz_, ss_, i64_w, i32_w]
        rfl
      refine pure_ (i := 4) (N := some 31) (v := ?_) (a' := ?_) (bl 11 255) rfl rfl (any_of HT_.out (by kernel_rfl)) (fun _ _ _ h => h) (Or.inl ⟨by rfl, ?_⟩) ?_ ?_
      rotate_left
      · intro w'; go_simp; with_reducible rfl
      rotate_left
      · simp only [Act.put, sa_, sz_, ss_, i64_w, i32_w]; rfl
      refine pure_ (i := 8) (N := some 35) (v := ?_) (a' := ?_) (bl 11 511) rfl rfl (any_of HT_.out (by kernel_rfl)) (fun _ _ _ h => h) (Or.inl ⟨by rfl, ?_⟩) ?_ ?_
      rotate_left
      · intro w'; go_simp; with_reducible rfl
      rotate_left
      · simp only [Act.put, sa_, sz_, ss_, i64_w, i32_w]; rfl
      refine pure_ (i := 9) (N := some 36) (v := ?_) (a' := ?_) (bl 11 1023) rfl rfl (any_of HT_.out (by kernel_rfl)) (fun _ _ _ h => h) (Or.inl ⟨by rfl, ?_⟩) ?_ ?_
      rotate_left
      · intro w'; go_simp; with_reducible rfl
      rotate_left
      · simp only [Act.put, sa_, sz_, ss_, i64_w, i32_w]; rfl
      refine one_ (i := 10) (N := none) (bl 11 2047) rfl rfl (one_of HT_.out (by kernel_rfl)) (by decide) (fun K hK => ?_)
      have hs33 : w32.cell? ⟨gb162, 1, none⟩ = some (.int .i64 a0_1) := (blk_cell BK162.out 1).trans rfl
      have hfs33 := blk_frozen BK162.out 1
      have hns33_0 := NB157_162.out
      have hns33_1 := NB158_162.out
      have hms33_0 := NB162_157.out
      have hms33_1 := NB162_158.out
      refine skip_ (w1 := ?_) (by rfl) rfl ?_ ?_
      rotate_left
      · go_simp
        rfl
      refine hK.out _ _ ⟨((cell_far (p := ⟨gb162, _, none⟩) NB157_162.out _).trans (hHeld.1)), ((cell_far (p := ⟨gb162, _, none⟩) NB157_162.out _).trans (hHeld.2.1)), ((cell_far (p := ⟨gb162, _, none⟩) NB157_162.out _).trans (hHeld.2.2.1)), ((cell_far (p := ⟨gb162, _, none⟩) NB157_162.out _).trans (hHeld.2.2.2.1)), ((cell_far (p := ⟨gb162, _, none⟩) NB157_162.out _).trans (hHeld.2.2.2.2.1)), ((cell_far (p := ⟨gb162, _, none⟩) NB157_162.out _).trans (hHeld.2.2.2.2.2))⟩ (fun hHeld => ?_)
      clear hK K
      refine done_ (done_of HT_.out (by kernel_rfl)) ?_
      try go_wp2
      go_meet
      case rel => exact ⟨_, (wrap64 ((wrap64 (t165 * 64)) + (Int.tmod a0_1 64))), H', ⟨by have := HJ2.out; (omega)⟩, ⟨by exact Kd.R_mono (Kd.R_far (p := ⟨gb162, 1, none⟩) (Kd.R_mono (Kd.R_drewN HO_163003.out _) (fun k_ hk => (⟨hk, hk.2.2⟩ : _ ∧ k_ ≠ gb162))) (fun _ hk => hk.2) (.int .i64 (wrap64 ((wrap64 (t165 * 64)) + (Int.tmod a0_1 64))))) (fun _ hk => ⟨hk.1.1, ⟨hk.1.2.1, hk.1.2.2⟩⟩)⟩, ⟨by refine blk_far ?_ NB157_162.out _; (with_reducible repeat (refine blk_drewN ?_ _)); exact BK157.out⟩, ⟨by refine blk_far ?_ NB158_162.out _; (with_reducible repeat (refine blk_drewN ?_ _)); exact BK158.out⟩, ⟨by refine blk_put (cs := #[.int .i64 a0_0, .int .i64 a0_1, .string a0_2, .slice Ao11 y159.length co11, .int .i64 a0_4, .int .i64 a0_5]) ?_ 1 _ rfl; (with_reducible repeat (refine blk_drewN ?_ _)); exact BK162.out⟩, ⟨by repeat (with_reducible first | exact HB.out | apply pw_below_drewN | refine below_set ?_ GE162.out)⟩⟩
    replace c28 := Bool.eq_false_iff.mpr c28
    subst c28
    have H1 : ((notaryref32_Named.f kj2 a0_0 a0_1 a0_2 l0_3 a0_4 a0_5).bind fun t166 => (if t166 ≥ 0 then ((notaryref32_Place.f l1 a0_1).bind fun t167 => (notaryref32_Renumbered.j1 kj2 l1 a0_0 a0_1 a0_2 l0_3 a0_4 a0_5 a0_0 t167 a0_2 y159 a0_4 a0_5)) else (notaryref32_Renumbered.j1 kj2 l1 a0_0 a0_1 a0_2 l0_3 a0_4 a0_5 a0_0 a0_1 a0_2 y159 a0_4 a0_5))) = some (r1, r2, r3, r4, r5, r6) := by rw [if_neg (show ¬ (false = true) by decide)] at H; exact H
    clear H
    have H := H1
    clear H1
    replace H := Option.bind_eq_some_iff.mp H
    obtain ⟨t166, A340, H⟩ := H
    replace H : (if t166 ≥ 0 then ((notaryref32_Place.f l1 a0_1).bind fun t167 => (notaryref32_Renumbered.j1 kj2 l1 a0_0 a0_1 a0_2 l0_3 a0_4 a0_5 a0_0 t167 a0_2 y159 a0_4 a0_5)) else (notaryref32_Renumbered.j1 kj2 l1 a0_0 a0_1 a0_2 l0_3 a0_4 a0_5 a0_0 a0_1 a0_2 y159 a0_4 a0_5)) = some (r1, r2, r3, r4, r5, r6) := H
    have A34 := Aside0.mk A340
    clear A340
    by_cases c35 : t166 ≥ 0
    rotate_left
    · rw [if_neg c35] at H
      have c35b0 : decide (0 ≤ t166) = false := decide_eq_false c35
      clear c35
      (skip)
      have H' := Aside0.mk H
      clear H
      have hnb44 := NB157_158.out
      have hnc44 := NB158_157.out
      have hnb45 := NB157_162.out
      have hnc45 := NB162_157.out
      have hcz46_0 : wc.cell? ⟨gb157, 0, none⟩ = some (.int .i64 a0_0) := (blk_cell BK157.out 0).trans rfl
      have hcz46_1 : wc.cell? ⟨gb157, 1, none⟩ = some (.int .i64 a0_1) := (blk_cell BK157.out 1).trans rfl
      have hcz46_2 : wc.cell? ⟨gb157, 2, none⟩ = some (.string a0_2) := (blk_cell BK157.out 2).trans rfl
      have hcz46_3 : wc.cell? ⟨gb157, 3, none⟩ = some (.slice A0_3 l0_3.length c0_3) := (blk_cell BK157.out 3).trans rfl
      have hcz46_4 : wc.cell? ⟨gb157, 4, none⟩ = some (.int .i64 a0_4) := (blk_cell BK157.out 4).trans rfl
      have hcz46_5 : wc.cell? ⟨gb157, 5, none⟩ = some (.int .i64 a0_5) := (blk_cell BK157.out 5).trans rfl
      have hfz46_0 := blk_frozen BK157.out 0
      have hfz46_1 := blk_frozen BK157.out 1
      have hfz46_2 := blk_frozen BK157.out 2
      have hfz46_3 := blk_frozen BK157.out 3
      have hfz46_4 := blk_frozen BK157.out 4
      have hfz46_5 := blk_frozen BK157.out 5
      go_wp2_with ((((with_reducible refine gate_callee (f := 39) rfl ?_); refine goesL_ (some 38) rfl rfl Try.func39 (by kernel_rfl) rfl #[.agg #[.int .i64 a0_0, .int .i64 a0_1, .string a0_2, .slice A0_3 l0_3.length c0_3, .int .i64 a0_4, .int .i64 a0_5]] rfl (by (try simp only [List.map_toArray, List.map_cons, List.map_nil]); (rfl)) ?_; (with_reducible refine (notaryref32_Named.calls kj2 a0_0 a0_1 a0_2 _ _ l0_3 a0_4 a0_5 t166 _ ?side1 ?side2 A34.out).mono ?_); (case side1 => exact Kd.C_below HR0_3.out HB.out); (case side2 => exact HC0_3.out); rintro e w47 ⟨rfl, hb⟩; refine ⟨_, rfl, ?_⟩; have n0_ := Aside0.mk (Kd.R_below (by exact HO_163003.out) hb); have n1_ := Aside0.mk (blk_below (g := gb157) (o := .cells #[.int .i64 a0_0, .int .i64 a0_1, .string a0_2, .slice A0_3 l0_3.length c0_3, .int .i64 a0_4, .int .i64 a0_5] 24 (0, 0)) (by exact BK157.out) hb); have n2_ := Aside0.mk (blk_below (g := gb158) (o := .cells #[.int .i64 0, .int .i64 0, .string (⟨#[]⟩ : ByteArray), .slice none 0 0, .int .i64 0, .int .i64 0] 24 (0, 0)) (by exact BK158.out) hb); have n3_ := Aside0.mk (blk_below (g := gb162) (o := .cells #[.int .i64 a0_0, .int .i64 a0_1, .string a0_2, .slice Ao11 y159.length co11, .int .i64 a0_4, .int .i64 a0_5] 24 (0, 0)) (by exact BK162.out) hb); have n4_ := Aside0.mk (below_step HB.out hb); clear HO_163003; clear BK157; clear BK158; clear BK162; clear HB; have HO_163003 := n0_; have BK157 := n1_; have BK158 := n2_; have BK162 := n3_; have HB := n4_; clear n0_ n1_ n2_ n3_ n4_; (try clear hb); (skip))))
      go_meet
      case rel => exact ⟨_, (a0_1), H', ⟨by have := HJ2.out; (omega)⟩, ⟨by exact HO_163003.out⟩, ⟨by exact BK157.out⟩, ⟨by exact BK158.out⟩, ⟨by exact BK162.out⟩, ⟨HB.out⟩⟩
    rw [if_pos c35] at H
    have c35b0 : decide (0 ≤ t166) = true := decide_eq_true c35
    clear c35
    (skip)
    replace H := Option.bind_eq_some_iff.mp H
    obtain ⟨t167, A360, H⟩ := H
    replace H : (notaryref32_Renumbered.j1 kj2 l1 a0_0 a0_1 a0_2 l0_3 a0_4 a0_5 a0_0 t167 a0_2 y159 a0_4 a0_5) = some (r1, r2, r3, r4, r5, r6) := H
    have A36 := Aside0.mk A360
    clear A360
    have H' := Aside0.mk H
    clear H
    have hnb37 := NB157_158.out
    have hnc37 := NB158_157.out
    have hnb38 := NB157_162.out
    have hnc38 := NB162_157.out
    have hcz39_0 : wc.cell? ⟨gb157, 0, none⟩ = some (.int .i64 a0_0) := (blk_cell BK157.out 0).trans rfl
    have hcz39_1 : wc.cell? ⟨gb157, 1, none⟩ = some (.int .i64 a0_1) := (blk_cell BK157.out 1).trans rfl
    have hcz39_2 : wc.cell? ⟨gb157, 2, none⟩ = some (.string a0_2) := (blk_cell BK157.out 2).trans rfl
    have hcz39_3 : wc.cell? ⟨gb157, 3, none⟩ = some (.slice A0_3 l0_3.length c0_3) := (blk_cell BK157.out 3).trans rfl
    have hcz39_4 : wc.cell? ⟨gb157, 4, none⟩ = some (.int .i64 a0_4) := (blk_cell BK157.out 4).trans rfl
    have hcz39_5 : wc.cell? ⟨gb157, 5, none⟩ = some (.int .i64 a0_5) := (blk_cell BK157.out 5).trans rfl
    have hfz39_0 := blk_frozen BK157.out 0
    have hfz39_1 := blk_frozen BK157.out 1
    have hfz39_2 := blk_frozen BK157.out 2
    have hfz39_3 := blk_frozen BK157.out 3
    have hfz39_4 := blk_frozen BK157.out 4
    have hfz39_5 := blk_frozen BK157.out 5
    go_wp2_with (first | ((with_reducible refine gate_callee (f := 39) rfl ?_); refine goesL_ (some 38) rfl rfl Try.func39 (by kernel_rfl) rfl #[.agg #[.int .i64 a0_0, .int .i64 a0_1, .string a0_2, .slice A0_3 l0_3.length c0_3, .int .i64 a0_4, .int .i64 a0_5]] rfl (by (try simp only [List.map_toArray, List.map_cons, List.map_nil]); (rfl)) ?_; (with_reducible refine (notaryref32_Named.calls kj2 a0_0 a0_1 a0_2 _ _ l0_3 a0_4 a0_5 t166 _ ?side1 ?side2 A34.out).mono ?_); (case side1 => exact Kd.C_below HR0_3.out HB.out); (case side2 => exact HC0_3.out); rintro e w40 ⟨rfl, hb⟩; refine ⟨_, rfl, ?_⟩; have n0_ := Aside0.mk (Kd.R_below (by exact HO_163003.out) hb); have n1_ := Aside0.mk (blk_below (g := gb157) (o := .cells #[.int .i64 a0_0, .int .i64 a0_1, .string a0_2, .slice A0_3 l0_3.length c0_3, .int .i64 a0_4, .int .i64 a0_5] 24 (0, 0)) (by exact BK157.out) hb); have n2_ := Aside0.mk (blk_below (g := gb158) (o := .cells #[.int .i64 0, .int .i64 0, .string (⟨#[]⟩ : ByteArray), .slice none 0 0, .int .i64 0, .int .i64 0] 24 (0, 0)) (by exact BK158.out) hb); have n3_ := Aside0.mk (blk_below (g := gb162) (o := .cells #[.int .i64 a0_0, .int .i64 a0_1, .string a0_2, .slice Ao11 y159.length co11, .int .i64 a0_4, .int .i64 a0_5] 24 (0, 0)) (by exact BK162.out) hb); have n4_ := Aside0.mk (below_step HB.out hb); clear HO_163003; clear BK157; clear BK158; clear BK162; clear HB; have HO_163003 := n0_; have BK157 := n1_; have BK158 := n2_; have BK162 := n3_; have HB := n4_; clear n0_ n1_ n2_ n3_ n4_; (try clear hb); have hcz41_0 : w40.cell? ⟨gb157, 0, none⟩ = some (.int .i64 a0_0) := (blk_cell BK157.out 0).trans rfl; have hcz41_1 : w40.cell? ⟨gb157, 1, none⟩ = some (.int .i64 a0_1) := (blk_cell BK157.out 1).trans rfl; have hcz41_2 : w40.cell? ⟨gb157, 2, none⟩ = some (.string a0_2) := (blk_cell BK157.out 2).trans rfl; have hcz41_3 : w40.cell? ⟨gb157, 3, none⟩ = some (.slice A0_3 l0_3.length c0_3) := (blk_cell BK157.out 3).trans rfl; have hcz41_4 : w40.cell? ⟨gb157, 4, none⟩ = some (.int .i64 a0_4) := (blk_cell BK157.out 4).trans rfl; have hcz41_5 : w40.cell? ⟨gb157, 5, none⟩ = some (.int .i64 a0_5) := (blk_cell BK157.out 5).trans rfl; have hfz41_0 := blk_frozen BK157.out 0; have hfz41_1 := blk_frozen BK157.out 1; have hfz41_2 := blk_frozen BK157.out 2; have hfz41_3 := blk_frozen BK157.out 3; have hfz41_4 := blk_frozen BK157.out 4; have hfz41_5 := blk_frozen BK157.out 5) | ((with_reducible refine gate_callee (f := 40) rfl ?_); refine goesL_ (some 43) rfl rfl Try.func40 (by kernel_rfl) rfl #[.slice A1 l1.length c1, .int .i64 a0_1] rfl (by (try simp only [List.map_toArray, List.map_cons, List.map_nil]); (rfl)) ?_; (with_reducible refine (notaryref32_Place.calls _ _ l1 a0_1 t167 _ ?side1 ?side2 A36.out).mono ?_); (case side1 => exact Kd.C_below HR1.out HB.out); (case side2 => exact HC1.out); rintro e w' ⟨rfl, ⟨nd, rfl⟩⟩; refine ⟨_, rfl, ?_⟩; (try (rw [drewN_self w40]; generalize hq_ : World.drewN w40 _ = w40; have n0_ : Aside0 (Kd.R k24 24 w40 w.heap.size (fun k_ => k_ ≠ gb157 ∧ k_ ≠ gb158 ∧ k_ ≠ gb162) (.slice Ao11 y159.length co11) y159) := ⟨by rw [← hq_]; exact (by (with_reducible repeat (apply Kd.R_drewN)); exact HO_163003.out)⟩; have n1_ : Aside0 (w40.heap[gb157]? = some (.cells #[.int .i64 a0_0, .int .i64 a0_1, .string a0_2, .slice A0_3 l0_3.length c0_3, .int .i64 a0_4, .int .i64 a0_5] 24 (0, 0))) := ⟨by rw [← hq_]; exact (by (with_reducible repeat (refine blk_drewN ?_ _)); exact BK157.out)⟩; have n2_ : Aside0 (w40.heap[gb158]? = some (.cells #[.int .i64 0, .int .i64 0, .string (⟨#[]⟩ : ByteArray), .slice none 0 0, .int .i64 0, .int .i64 0] 24 (0, 0))) := ⟨by rw [← hq_]; exact (by (with_reducible repeat (refine blk_drewN ?_ _)); exact BK158.out)⟩; have n3_ : Aside0 (w40.heap[gb162]? = some (.cells #[.int .i64 a0_0, .int .i64 a0_1, .string a0_2, .slice Ao11 y159.length co11, .int .i64 a0_4, .int .i64 a0_5] 24 (0, 0))) := ⟨by rw [← hq_]; exact (by (with_reducible repeat (refine blk_drewN ?_ _)); exact BK162.out)⟩; have n4_ : Aside0 (Below w.heap.size w w40) := ⟨by rw [← hq_]; exact (by repeat (with_reducible first | exact HB.out | apply pw_below_drewN))⟩; clear HO_163003 BK157 BK158 BK162 HB hq_; have HO_163003 := n0_; have BK157 := n1_; have BK158 := n2_; have BK162 := n3_; have HB := n4_; clear n0_ n1_ n2_ n3_ n4_)); have hnb42 := NB162_158.out; have hnc42 := NB158_162.out; have hcz43_0 : w40.cell? ⟨gb162, 0, none⟩ = some (.int .i64 a0_0) := (blk_cell BK162.out 0).trans rfl; have hcz43_1 : w40.cell? ⟨gb162, 1, none⟩ = some (.int .i64 a0_1) := (blk_cell BK162.out 1).trans rfl; have hcz43_2 : w40.cell? ⟨gb162, 2, none⟩ = some (.string a0_2) := (blk_cell BK162.out 2).trans rfl; have hcz43_3 : w40.cell? ⟨gb162, 3, none⟩ = some (.slice Ao11 y159.length co11) := (blk_cell BK162.out 3).trans rfl; have hcz43_4 : w40.cell? ⟨gb162, 4, none⟩ = some (.int .i64 a0_4) := (blk_cell BK162.out 4).trans rfl; have hcz43_5 : w40.cell? ⟨gb162, 5, none⟩ = some (.int .i64 a0_5) := (blk_cell BK162.out 5).trans rfl; have hfz43_0 := blk_frozen BK162.out 0; have hfz43_1 := blk_frozen BK162.out 1; have hfz43_2 := blk_frozen BK162.out 2; have hfz43_3 := blk_frozen BK162.out 3; have hfz43_4 := blk_frozen BK162.out 4; have hfz43_5 := blk_frozen BK162.out 5))
    go_meet
    case rel => exact ⟨_, (t167), H', ⟨by have := HJ2.out; (omega)⟩, ⟨by exact Kd.R_mono (Kd.R_far (p := ⟨gb162, 1, none⟩) (Kd.R_mono HO_163003.out (fun k_ hk => (⟨hk, hk.2.2⟩ : _ ∧ k_ ≠ gb162))) (fun _ hk => hk.2) (.int .i64 t167)) (fun _ hk => ⟨hk.1.1, ⟨hk.1.2.1, hk.1.2.2⟩⟩)⟩, ⟨by refine blk_far ?_ NB157_162.out _; exact BK157.out⟩, ⟨by refine blk_far ?_ NB158_162.out _; exact BK158.out⟩, ⟨by refine blk_put (cs := #[.int .i64 a0_0, .int .i64 a0_1, .string a0_2, .slice Ao11 y159.length co11, .int .i64 a0_4, .int .i64 a0_5]) ?_ 1 _ rfl; exact BK162.out⟩, ⟨by repeat (with_reducible first | exact HB.out | refine below_set ?_ GE162.out)⟩⟩
  clear HC27
  obtain ⟨kq, x163001_26, HA, HJ26, HO_163003, BK157, BK158, BK162, HB⟩ := hcut
  rcases kq with _ | kj26
  · exact absurd HA.out (by simp [notaryref32_Renumbered.j1])
  have H := HA.out
  clear HA
  simp only [notaryref32_Renumbered.j1] at H
  have H' := Aside0.mk H
  clear H
  go_wp2
  go_loopg [6] kj26 (fun kq v6 w' => ∃ (x6_3 : Int) (x163003_3 : List (S24)) (u163003 : Value), v6 = .int .i64 x6_3 ∧ Aside0 (notaryref32_Renumbered.l0 kq l1 x6_3 a0_0 a0_1 a0_2 l0_3 a0_4 a0_5 a0_0 x163001_26 a0_2 x163003_3 a0_4 a0_5 = some (r1, r2, r3, r4, r5, r6)) ∧ Aside0 (kq ≤ kj26) ∧ Aside0 (Kd.R k24 24 w' w.heap.size (fun k_ => k_ ≠ gb157 ∧ k_ ≠ gb158 ∧ k_ ≠ gb162) u163003 x163003_3) ∧ Aside0 (w'.heap[gb157]? = some (.cells #[.int .i64 a0_0, .int .i64 a0_1, .string a0_2, (.slice A0_3 l0_3.length c0_3), .int .i64 a0_4, .int .i64 a0_5] 24 (0, 0))) ∧ Aside0 (w'.heap[gb158]? = some (.cells #[.int .i64 0, .int .i64 0, .string (⟨#[]⟩ : ByteArray), (.slice none 0 0), .int .i64 0, .int .i64 0] 24 (0, 0))) ∧ Aside0 (w'.heap[gb162]? = some (.cells #[.int .i64 a0_0, .int .i64 x163001_26, .string a0_2, u163003, .int .i64 a0_4, .int .i64 a0_5] 24 (0, 0))) ∧ Aside0 (Below w.heap.size w w'))
  case atStart => exact ⟨(0), (y159), (.slice Ao11 y159.length co11), (by (rfl)), H', ⟨Nat.le_refl _⟩, ⟨by exact HO_163003.out⟩, ⟨by exact BK157.out⟩, ⟨by exact BK158.out⟩, ⟨by exact BK162.out⟩, ⟨HB.out⟩⟩
  clear H'
  obtain ⟨x6_3, x163003_3, u163003, rfl, HA, HK3, HO_163003, BK157, BK158, BK162, HB⟩ := hrel
  rcases gk with _ | k3
  · exact absurd HA.out (by simp [notaryref32_Renumbered.l0])
  have H := HA.out
  clear HA
  simp only [notaryref32_Renumbered.l0] at H
  by_cases c48 : x6_3 < (l0_3.length : Int)
  rotate_left
  · rw [if_neg c48] at H
    have c48b0 : decide (x6_3 < (l0_3.length : Int)) = false := decide_eq_false c48
    clear c48
    simp only [Option.some.injEq, Prod.mk.injEq] at H
    obtain ⟨rfl, rfl, rfl, rfl, rfl, rfl⟩ := H
    have hnb61 := NB157_158.out
    have hnc61 := NB158_157.out
    have hnb62 := NB157_162.out
    have hnc62 := NB162_157.out
    have hcz63_0 : wr.cell? ⟨gb157, 0, none⟩ = some (.int .i64 a0_0) := (blk_cell BK157.out 0).trans rfl
    have hcz63_1 : wr.cell? ⟨gb157, 1, none⟩ = some (.int .i64 a0_1) := (blk_cell BK157.out 1).trans rfl
    have hcz63_2 : wr.cell? ⟨gb157, 2, none⟩ = some (.string a0_2) := (blk_cell BK157.out 2).trans rfl
    have hcz63_3 : wr.cell? ⟨gb157, 3, none⟩ = some (.slice A0_3 l0_3.length c0_3) := (blk_cell BK157.out 3).trans rfl
    have hcz63_4 : wr.cell? ⟨gb157, 4, none⟩ = some (.int .i64 a0_4) := (blk_cell BK157.out 4).trans rfl
    have hcz63_5 : wr.cell? ⟨gb157, 5, none⟩ = some (.int .i64 a0_5) := (blk_cell BK157.out 5).trans rfl
    have hfz63_0 := blk_frozen BK157.out 0
    have hfz63_1 := blk_frozen BK157.out 1
    have hfz63_2 := blk_frozen BK157.out 2
    have hfz63_3 := blk_frozen BK157.out 3
    have hfz63_4 := blk_frozen BK157.out 4
    have hfz63_5 := blk_frozen BK157.out 5
    have hnb64 := NB162_158.out
    have hnc64 := NB158_162.out
    have hcz65_0 : wr.cell? ⟨gb162, 0, none⟩ = some (.int .i64 a0_0) := (blk_cell BK162.out 0).trans rfl
    have hcz65_1 : wr.cell? ⟨gb162, 1, none⟩ = some (.int .i64 x163001_26) := (blk_cell BK162.out 1).trans rfl
    have hcz65_2 : wr.cell? ⟨gb162, 2, none⟩ = some (.string a0_2) := (blk_cell BK162.out 2).trans rfl
    have hcz65_3 : wr.cell? ⟨gb162, 3, none⟩ = some (u163003) := (blk_cell BK162.out 3).trans rfl
    have hcz65_4 : wr.cell? ⟨gb162, 4, none⟩ = some (.int .i64 a0_4) := (blk_cell BK162.out 4).trans rfl
    have hcz65_5 : wr.cell? ⟨gb162, 5, none⟩ = some (.int .i64 a0_5) := (blk_cell BK162.out 5).trans rfl
    have hfz65_0 := blk_frozen BK162.out 0
    have hfz65_1 := blk_frozen BK162.out 1
    have hfz65_2 := blk_frozen BK162.out 2
    have hfz65_3 := blk_frozen BK162.out 3
    have hfz65_4 := blk_frozen BK162.out 4
    have hfz65_5 := blk_frozen BK162.out 5
    have hcz66_0 : wr.cell? ⟨gb158, 0, none⟩ = some (.int .i64 0) := (blk_cell BK158.out 0).trans rfl
    have hcz66_1 : wr.cell? ⟨gb158, 1, none⟩ = some (.int .i64 0) := (blk_cell BK158.out 1).trans rfl
    have hcz66_2 : wr.cell? ⟨gb158, 2, none⟩ = some (.string (⟨#[]⟩ : ByteArray)) := (blk_cell BK158.out 2).trans rfl
    have hcz66_3 : wr.cell? ⟨gb158, 3, none⟩ = some (.slice none 0 0) := (blk_cell BK158.out 3).trans rfl
    have hcz66_4 : wr.cell? ⟨gb158, 4, none⟩ = some (.int .i64 0) := (blk_cell BK158.out 4).trans rfl
    have hcz66_5 : wr.cell? ⟨gb158, 5, none⟩ = some (.int .i64 0) := (blk_cell BK158.out 5).trans rfl
    have hfz66_0 := blk_frozen BK158.out 0
    have hfz66_1 := blk_frozen BK158.out 1
    have hfz66_2 := blk_frozen BK158.out 2
    have hfz66_3 := blk_frozen BK158.out 3
    have hfz66_4 := blk_frozen BK158.out 4
    have hfz66_5 := blk_frozen BK158.out 5
    obtain ⟨Ao67, co67, eo67⟩ := Kd.R_slice HO_163003.out
    subst eo67
    go_wp2
    refine bodyPost_ret (results_cell_row rfl _ _ gb158 24 #[.int .i64 a0_0, .int .i64 x163001_26, .string a0_2, .slice Ao67 x163003_3.length co67, .int .i64 a0_4, .int .i64 a0_5] (0, 0) _ rfl (by refine blk_put (cs := #[.int .i64 a0_0, .int .i64 x163001_26, .string a0_2, .slice Ao67 x163003_3.length co67, .int .i64 a0_4, .int .i64 0]) ?_ 5 _ rfl; refine blk_put (cs := #[.int .i64 a0_0, .int .i64 x163001_26, .string a0_2, .slice Ao67 x163003_3.length co67, .int .i64 0, .int .i64 0]) ?_ 4 _ rfl; refine blk_put (cs := #[.int .i64 a0_0, .int .i64 x163001_26, .string a0_2, .slice none 0 0, .int .i64 0, .int .i64 0]) ?_ 3 _ rfl; refine blk_put (cs := #[.int .i64 a0_0, .int .i64 x163001_26, .string (⟨#[]⟩ : ByteArray), .slice none 0 0, .int .i64 0, .int .i64 0]) ?_ 2 _ rfl; refine blk_put (cs := #[.int .i64 a0_0, .int .i64 0, .string (⟨#[]⟩ : ByteArray), .slice none 0 0, .int .i64 0, .int .i64 0]) ?_ 1 _ rfl; refine blk_put (cs := #[.int .i64 0, .int .i64 0, .string (⟨#[]⟩ : ByteArray), .slice none 0 0, .int .i64 0, .int .i64 0]) ?_ 0 _ rfl; exact BK158.out) Try.underlying24 rfl (by kernel_rfl)) rfl ?_
    exact ⟨_, by (rfl), by exact Kd.R_mono (Kd.R_far (p := ⟨gb158, 5, none⟩) (Kd.R_far (p := ⟨gb158, 4, none⟩) (Kd.R_far (p := ⟨gb158, 3, none⟩) (Kd.R_far (p := ⟨gb158, 2, none⟩) (Kd.R_far (p := ⟨gb158, 1, none⟩) (Kd.R_far (p := ⟨gb158, 0, none⟩) (Kd.R_mono HO_163003.out (fun k_ hk => (⟨hk, hk.2.1⟩ : _ ∧ k_ ≠ gb158))) (fun _ hk => hk.2) (.int .i64 a0_0)) (fun _ hk => hk.2) (.int .i64 x163001_26)) (fun _ hk => hk.2) (.string a0_2)) (fun _ hk => hk.2) (.slice Ao67 x163003_3.length co67)) (fun _ hk => hk.2) (.int .i64 a0_4)) (fun _ hk => hk.2) (.int .i64 a0_5)) (fun _ hk => trivial), by repeat (with_reducible first | exact HB.out | refine below_set ?_ GE158.out)⟩

  rw [if_pos c48] at H
  have c48b0 : decide (x6_3 < (l0_3.length : Int)) = true := decide_eq_true c48
  clear c48
  by_cases c49 : 0 ≤ x6_3
  rotate_left
  · rw [if_neg c49] at H
    exact absurd H (by simp)
  rw [if_pos c49] at H
  have c49b0 : decide (0 ≤ x6_3) = true := decide_eq_true c49
  clear c49
  replace H := Option.bind_eq_some_iff.mp H
  obtain ⟨⟨t169, t170, t171, t172, t175, t176⟩, A500, H⟩ := H
  replace H : (if x163003_3.length < 1954687338268 then (notaryref32_Renumbered.l0 k3 l1 (wrap64 (x6_3 + 1)) a0_0 a0_1 a0_2 l0_3 a0_4 a0_5 a0_0 x163001_26 a0_2 (x163003_3 ++ [(⟨t169, t170, t171, t172, t175, t176⟩ : S24)]) a0_4 a0_5) else (none)) = some (r1, r2, r3, r4, r5, r6) := H
  have A50 := Aside0.mk A500
  clear A500
  by_cases c51 : x163003_3.length < 1954687338268
  rotate_left
  · rw [if_neg c51] at H
    exact absurd H (by simp)
  rw [if_pos c51] at H
  have LMc51 := Aside0.mk c51
  clear c51
  obtain ⟨y177, hy177⟩ : ∃ y_ : List (S24), y_ = (x163003_3 ++ [(⟨t169, t170, t171, t172, t175, t176⟩ : S24)]) := ⟨_, rfl⟩
  replace H : (notaryref32_Renumbered.l0 k3 l1 (wrap64 (x6_3 + 1)) a0_0 a0_1 a0_2 l0_3 a0_4 a0_5 a0_0 x163001_26 a0_2 y177 a0_4 a0_5) = some (r1, r2, r3, r4, r5, r6) := by (rw [hy177]; with_reducible exact H)
  have Ny177 := Aside0.mk hy177
  clear hy177
  have H' := Aside0.mk H
  clear H
  have hnb52 := NB157_158.out
  have hnc52 := NB158_157.out
  have hnb53 := NB157_162.out
  have hnc53 := NB162_157.out
  have hcz54_0 : wr.cell? ⟨gb157, 0, none⟩ = some (.int .i64 a0_0) := (blk_cell BK157.out 0).trans rfl
  have hcz54_1 : wr.cell? ⟨gb157, 1, none⟩ = some (.int .i64 a0_1) := (blk_cell BK157.out 1).trans rfl
  have hcz54_2 : wr.cell? ⟨gb157, 2, none⟩ = some (.string a0_2) := (blk_cell BK157.out 2).trans rfl
  have hcz54_3 : wr.cell? ⟨gb157, 3, none⟩ = some (.slice A0_3 l0_3.length c0_3) := (blk_cell BK157.out 3).trans rfl
  have hcz54_4 : wr.cell? ⟨gb157, 4, none⟩ = some (.int .i64 a0_4) := (blk_cell BK157.out 4).trans rfl
  have hcz54_5 : wr.cell? ⟨gb157, 5, none⟩ = some (.int .i64 a0_5) := (blk_cell BK157.out 5).trans rfl
  have hfz54_0 := blk_frozen BK157.out 0
  have hfz54_1 := blk_frozen BK157.out 1
  have hfz54_2 := blk_frozen BK157.out 2
  have hfz54_3 := blk_frozen BK157.out 3
  have hfz54_4 := blk_frozen BK157.out 4
  have hfz54_5 := blk_frozen BK157.out 5
  try go_wp2
  have n0_ := Aside0.mk (Kd.R_drew HO_163003.out)
  have n1_ := Aside0.mk (blk_drew BK157.out)
  have n2_ := Aside0.mk (blk_drew BK158.out)
  have n3_ := Aside0.mk (blk_drew BK162.out)
  have n4_ := Aside0.mk (below_drew1 HB.out)
  clear HO_163003
  clear BK157
  clear BK158
  clear BK162
  clear HB
  have HO_163003 := n0_
  have BK157 := n1_
  have BK158 := n2_
  have BK162 := n3_
  have HB := n4_
  clear n0_ n1_ n2_ n3_ n4_
  have p168 : 0 ≤ (x6_3 : Int) := of_decide_eq_true (by (with_reducible assumption))
  have q168 : x6_3 < (l0_3.length : Int) := of_decide_eq_true (by (with_reducible assumption))
  obtain ⟨ad168, A168_3, c168_3, e168, hx168_0, hx168_1, hx168_2, hx168_3, hx168_4, hx168_5, hl168_3, hi168_3⟩ := at_T24 HR0_3.out x6_3 p168 q168
  have hw168_5 := hx168_5
  have hw168_4 := hx168_4
  have hw168_3 := hx168_3
  have hw168_2 := hx168_2
  have hw168_1 := hx168_1
  have hw168_0 := hx168_0
  cases e168
  replace hx168_0 := pw_cell_below HB.out hx168_0
  replace hx168_1 := pw_cell_below HB.out hx168_1
  replace hx168_2 := pw_cell_below HB.out hx168_2
  replace hx168_3 := pw_cell_below HB.out hx168_3
  replace hx168_4 := pw_cell_below HB.out hx168_4
  replace hx168_5 := pw_cell_below HB.out hx168_5
  have HR168_3 := Aside0.mk hi168_3
  have HC168_3 := Aside0.mk hl168_3
  clear hi168_3 hl168_3
  replace p168 := eq_true p168
  replace q168 := eq_true q168
  refine start_ (n := 13) (S := fun w' => w'.cell? ⟨gb162, 0, none⟩ = some (.int .i64 a0_0) ∧ w'.cell? ⟨gb162, 1, none⟩ = some (.int .i64 x163001_26) ∧ w'.cell? ⟨gb162, 2, none⟩ = some (.string a0_2) ∧ w'.cell? ⟨gb162, 3, none⟩ = some (u163003) ∧ w'.cell? ⟨gb162, 4, none⟩ = some (.int .i64 a0_4) ∧ w'.cell? ⟨gb162, 5, none⟩ = some (.int .i64 a0_5) ∧ w'.cell? ⟨gb157, 0, none⟩ = some (.int .i64 a0_0) ∧ w'.cell? ⟨gb157, 1, none⟩ = some (.int .i64 a0_1) ∧ w'.cell? ⟨gb157, 2, none⟩ = some (.string a0_2) ∧ w'.cell? ⟨gb157, 3, none⟩ = some (.slice (some ad168) l0_3.length c0_3) ∧ w'.cell? ⟨gb157, 4, none⟩ = some (.int .i64 a0_4) ∧ w'.cell? ⟨gb157, 5, none⟩ = some (.int .i64 a0_5) ∧ w'.cell? (ad168.add ((x6_3).toNat * 6)) = some (.int .i64 ((rd_T24 l0_3 x6_3).f0)) ∧ w'.cell? ⟨(ad168.add ((x6_3).toNat * 6)).block, (ad168.add ((x6_3).toNat * 6)).off + 1, none⟩ = some (.int .i64 ((rd_T24 l0_3 x6_3).f1)) ∧ w'.cell? ⟨(ad168.add ((x6_3).toNat * 6)).block, (ad168.add ((x6_3).toNat * 6)).off + 2, none⟩ = some (.string ((rd_T24 l0_3 x6_3).f2)) ∧ w'.cell? ⟨(ad168.add ((x6_3).toNat * 6)).block, (ad168.add ((x6_3).toNat * 6)).off + 3, none⟩ = some (.slice A168_3 ((rd_T24 l0_3 x6_3).f3).length c168_3) ∧ w'.cell? ⟨(ad168.add ((x6_3).toNat * 6)).block, (ad168.add ((x6_3).toNat * 6)).off + 4, none⟩ = some (.int .i64 ((rd_T24 l0_3 x6_3).f4)) ∧ w'.cell? ⟨(ad168.add ((x6_3).toNat * 6)).block, (ad168.add ((x6_3).toNat * 6)).off + 5, none⟩ = some (.int .i64 ((rd_T24 l0_3 x6_3).f5))) (ds := [12]) (bl 13 0) (by kernel_rfl) rfl rfl ⟨(blk_cell BK162.out 0).trans rfl, (blk_cell BK162.out 1).trans rfl, (blk_cell BK162.out 2).trans rfl, (blk_cell BK162.out 3).trans rfl, (blk_cell BK162.out 4).trans rfl, (blk_cell BK162.out 5).trans rfl, (blk_cell BK157.out 0).trans rfl, (blk_cell BK157.out 1).trans rfl, (blk_cell BK157.out 2).trans rfl, (blk_cell BK157.out 3).trans rfl, (blk_cell BK157.out 4).trans rfl, (blk_cell BK157.out 5).trans rfl, (pw_cell_below HB.out hw168_0), (pw_cell_below HB.out hw168_1), (pw_cell_below HB.out hw168_2), (pw_cell_below HB.out hw168_3), (pw_cell_below HB.out hw168_4), (pw_cell_below HB.out hw168_5)⟩ (fun hHeld => ?_); refine with_tabW notaryref32_Renumbered.tab9 notaryref32_Renumbered.bits9 (fun HT_ HW_ => ?_)
  generalize wr.drew = w55 at HO_163003 BK157 BK158 BK162 HB HR168_3 hx168_0 hx168_1 hx168_2 hx168_3 hx168_4 hx168_5 hHeld ⊢
  refine pure_ (i := 0) (N := some 52) (v := ?_) (a' := ?_) (bl 13 1) rfl rfl (any_of HT_.out (by kernel_rfl)) (fun _ _ _ h => h) (Or.inl ⟨by rfl, ?_⟩) ?_ ?_
  rotate_left
  · intro w'; go_simp; with_reducible rfl
  rotate_left
  · simp only [Act.put, sa_, sz_, ss_, i64_w, i32_w]; rfl
  refine pure_ (i := 2) (N := some 54) (v := ?_) (a' := ?_) (bl 13 5) rfl rfl (any_of HT_.out (by kernel_rfl)) (fun _ _ _ h => h) (Or.inl ⟨by rfl, ?_⟩) ?_ ?_
  rotate_left
  · intro w'; go_simp; with_reducible rfl
  rotate_left
  · simp only [Act.put, sa_, sz_, ss_, i64_w, i32_w]; rfl
  refine pure_ (i := 4) (N := some 56) (v := ?_) (a' := ?_) (bl 13 21) rfl rfl (any_of HT_.out (by kernel_rfl)) (fun _ _ _ h => h) (Or.inl ⟨by rfl, ?_⟩) ?_ ?_
  rotate_left
  · intro w'; go_simp; with_reducible rfl
  rotate_left
  · simp only [Act.put, sa_, sz_, ss_, i64_w, i32_w]; rfl
  refine pure_ (i := 7) (N := some 59) (v := ?_) (a' := ?_) (bl 13 149) rfl rfl (any_of HT_.out (by kernel_rfl)) (fun _ _ _ h => h) (Or.inl ⟨by rfl, ?_⟩) ?_ ?_
  rotate_left
  · intro w'; go_simp; with_reducible rfl
  rotate_left
  · simp only [Act.put, sa_, sz_, ss_, i64_w, i32_w]; rfl
  refine take_ (i := 1) (N := some 53) (v := ?_) (a' := ?_) (bl 13 151) rfl rfl (take_ofW HT_.out HW_.out (by kernel_rfl)) (fun _ _ _ h => h) (Or.inl ⟨by rfl, ?_⟩) hHeld ?_ ?_
  rotate_left
  · rintro w' ⟨s0, s1, s2, s3, s4, s5, s6, s7, s8, s9, s10, s11, s12, s13, s14, s15, s16, s17⟩
    go_simp
    with_reducible rfl
  rotate_left
  · simp only [Act.put, sa_, sz_, ss_, i64_w, i32_w]; rfl
  refine take_ (i := 3) (N := some 55) (v := ?_) (a' := ?_) (bl 13 159) rfl rfl (take_ofW HT_.out HW_.out (by kernel_rfl)) (fun _ _ _ h => h) (Or.inl ⟨by rfl, ?_⟩) hHeld ?_ ?_
  rotate_left
  · rintro w' ⟨s0, s1, s2, s3, s4, s5, s6, s7, s8, s9, s10, s11, s12, s13, s14, s15, s16, s17⟩
    go_simp
    with_reducible rfl
  rotate_left
  · simp only [Act.put, sa_, sz_, ss_, i64_w, i32_w]; rfl
  refine pure_ (i := 5) (N := some 57) (v := ?_) (a' := ?_) (bl 13 191) rfl rfl (any_of HT_.out (by kernel_rfl)) (fun _ _ _ h => h) (Or.inl ⟨by rfl, ?_⟩) ?_ ?_
  rotate_left
  · intro w'; go_simp; with_reducible rfl
  rotate_left
  · simp only [Act.put, sa_, sz_, ss_, i64_w, i32_w]; rfl
  refine take_ (i := 6) (N := some 58) (v := ?_) (a' := ?_) (bl 13 255) rfl rfl (take_ofW HT_.out HW_.out (by kernel_rfl)) (fun _ _ _ h => h) (Or.inl ⟨by rfl, ?_⟩) hHeld ?_ ?_
  rotate_left
  · rintro w' ⟨s0, s1, s2, s3, s4, s5, s6, s7, s8, s9, s10, s11, s12, s13, s14, s15, s16, s17⟩
    go_simp
    with_reducible rfl
  rotate_left
  · simp only [Act.put, sa_, sz_, ss_, i64_w, i32_w]; rfl
  refine one_ (i := 8) (N := some 60) (bl 13 511) rfl rfl (one_of HT_.out (by kernel_rfl)) (by decide) (fun K hK => ?_)
  refine goes_ Try.func31 (by kernel_rfl) rfl #[.agg #[.int .i64 ((rd_T24 l0_3 x6_3).f0), .int .i64 ((rd_T24 l0_3 x6_3).f1), .string ((rd_T24 l0_3 x6_3).f2), .slice A168_3 ((rd_T24 l0_3 x6_3).f3).length c168_3, .int .i64 ((rd_T24 l0_3 x6_3).f4), .int .i64 ((rd_T24 l0_3 x6_3).f5)], .slice A1 l1.length c1] (by rfl) rfl rfl (by (try simp only [List.map_toArray, List.map_cons, List.map_nil]); (rfl)) ?_
  with_reducible refine (ih k3 (by have := HJ2.out; have := HJ26.out; have := HK3.out; omega) ((rd_T24 l0_3 x6_3).f0) ((rd_T24 l0_3 x6_3).f1) ((rd_T24 l0_3 x6_3).f2) _ _ ((rd_T24 l0_3 x6_3).f3) ((rd_T24 l0_3 x6_3).f4) ((rd_T24 l0_3 x6_3).f5) _ _ l1 t169 t170 t171 t172 t175 t176 _ ?side1 ?side2 ?side3 ?side4 A50.out).mono ?_
  (case side1 => exact Kd.C_below HR168_3.out HB.out)
  (case side2 => exact HC168_3.out)
  (case side3 => exact Kd.C_below HR1.out HB.out)
  (case side4 => exact HC1.out)
  rintro e w56 ⟨v173, rfl, ho0, hb⟩
  refine ⟨_, rfl, ?_⟩
  have n0_ := Aside0.mk (Kd.R_elder' (by exact HO_163003.out) (Kd.R_base ho0) hb)
  have n1_ := Aside0.mk (Kd.R_lower (Kd.R_newB (Kd.R_newB (Kd.R_newB (Kd.R_new' ho0 (Kd.R_lt (by exact HO_163003.out))) (g := gb157) (o := .cells #[.int .i64 a0_0, .int .i64 a0_1, .string a0_2, .slice (some ad168) l0_3.length c0_3, .int .i64 a0_4, .int .i64 a0_5] 24 (0, 0)) (by exact BK157.out)) (g := gb158) (o := .cells #[.int .i64 0, .int .i64 0, .string (⟨#[]⟩ : ByteArray), .slice none 0 0, .int .i64 0, .int .i64 0] 24 (0, 0)) (by exact BK158.out)) (g := gb162) (o := .cells #[.int .i64 a0_0, .int .i64 x163001_26, .string a0_2, u163003, .int .i64 a0_4, .int .i64 a0_5] 24 (0, 0)) (by exact BK162.out)) (below_size HB.out))
  have n2_ := Aside0.mk (blk_below (g := gb157) (o := .cells #[.int .i64 a0_0, .int .i64 a0_1, .string a0_2, .slice (some ad168) l0_3.length c0_3, .int .i64 a0_4, .int .i64 a0_5] 24 (0, 0)) (by exact BK157.out) hb)
  have n3_ := Aside0.mk (blk_below (g := gb158) (o := .cells #[.int .i64 0, .int .i64 0, .string (⟨#[]⟩ : ByteArray), .slice none 0 0, .int .i64 0, .int .i64 0] 24 (0, 0)) (by exact BK158.out) hb)
  have n4_ := Aside0.mk (blk_below (g := gb162) (o := .cells #[.int .i64 a0_0, .int .i64 x163001_26, .string a0_2, u163003, .int .i64 a0_4, .int .i64 a0_5] 24 (0, 0)) (by exact BK162.out) hb)
  have n5_ := Aside0.mk (below_step HB.out hb)
  clear HO_163003
  clear BK157
  clear BK158
  clear BK162
  clear HB
  have HO_163003 := n0_
  have HO174 := n1_
  have BK157 := n2_
  have BK158 := n3_
  have BK162 := n4_
  have HB := n5_
  clear n0_ n1_ n2_ n3_ n4_ n5_
  (try clear hb)
  (skip)
  (skip)
  (skip)
  (try clear ho0)
  obtain ⟨Ao58, co58, eo58⟩ := Kd.R_slice HO174.out
  (subst eo58)
  refine hK.out _ _ ⟨(blk_cell BK162.out 0).trans rfl, (blk_cell BK162.out 1).trans rfl, (blk_cell BK162.out 2).trans rfl, (blk_cell BK162.out 3).trans rfl, (blk_cell BK162.out 4).trans rfl, (blk_cell BK162.out 5).trans rfl, (blk_cell BK157.out 0).trans rfl, (blk_cell BK157.out 1).trans rfl, (blk_cell BK157.out 2).trans rfl, (blk_cell BK157.out 3).trans rfl, (blk_cell BK157.out 4).trans rfl, (blk_cell BK157.out 5).trans rfl, (pw_cell_below HB.out hw168_0), (pw_cell_below HB.out hw168_1), (pw_cell_below HB.out hw168_2), (pw_cell_below HB.out hw168_3), (pw_cell_below HB.out hw168_4), (pw_cell_below HB.out hw168_5)⟩ (fun hHeld => ?_)
  clear hK K
  refine norm_ (a' := ?_) ?_ ?_
  rotate_left
  · show Act.put _ (some 60) _ = _
    simp only [Act.put, sa_, sz_, ss_, i64_w, i32_w]
    rfl
  refine one_ (i := 9) (N := some 61) (bl 13 1023) rfl rfl (one_of HT_.out (by kernel_rfl)) (by decide) (fun K hK => ?_)
  refine value_ (w1 := ?_) (v := ?_) (by rfl) rfl ?_ ?_
  rotate_left 2
  · go_simp
    constructor
    · rfl
    · rfl
  refine hK.out _ _ ⟨(blk_cell (blk_alloc BK162.out _) 0).trans rfl, (blk_cell (blk_alloc BK162.out _) 1).trans rfl, (blk_cell (blk_alloc BK162.out _) 2).trans rfl, (blk_cell (blk_alloc BK162.out _) 3).trans rfl, (blk_cell (blk_alloc BK162.out _) 4).trans rfl, (blk_cell (blk_alloc BK162.out _) 5).trans rfl, (blk_cell (blk_alloc BK157.out _) 0).trans rfl, (blk_cell (blk_alloc BK157.out _) 1).trans rfl, (blk_cell (blk_alloc BK157.out _) 2).trans rfl, (blk_cell (blk_alloc BK157.out _) 3).trans rfl, (blk_cell (blk_alloc BK157.out _) 4).trans rfl, (blk_cell (blk_alloc BK157.out _) 5).trans rfl, (World.cell?_alloc_lt _ _ _ (World.block_lt_of_cell? _ _ ((pw_cell_below HB.out hw168_0)))).trans ((pw_cell_below HB.out hw168_0)), (World.cell?_alloc_lt _ _ _ (World.block_lt_of_cell? _ _ ((pw_cell_below HB.out hw168_1)))).trans ((pw_cell_below HB.out hw168_1)), (World.cell?_alloc_lt _ _ _ (World.block_lt_of_cell? _ _ ((pw_cell_below HB.out hw168_2)))).trans ((pw_cell_below HB.out hw168_2)), (World.cell?_alloc_lt _ _ _ (World.block_lt_of_cell? _ _ ((pw_cell_below HB.out hw168_3)))).trans ((pw_cell_below HB.out hw168_3)), (World.cell?_alloc_lt _ _ _ (World.block_lt_of_cell? _ _ ((pw_cell_below HB.out hw168_4)))).trans ((pw_cell_below HB.out hw168_4)), (World.cell?_alloc_lt _ _ _ (World.block_lt_of_cell? _ _ ((pw_cell_below HB.out hw168_5)))).trans ((pw_cell_below HB.out hw168_5))⟩ (fun hHeld => ?_)
  clear hK K
  refine norm_ (a' := ?_) ?_ ?_
  rotate_left
  · show Act.put _ (some 61) _ = _
    simp only [Act.put, sa_, sz_, ss_, i64_w, i32_w]
    rfl
  refine one_ (i := 10) (N := some 62) (bl 13 2047) rfl rfl (one_of HT_.out (by kernel_rfl)) (by decide) (fun K hK => ?_)
  refine Kd.R_append_step k24 (w0 := w) w.heap.size (by rfl) (.tmp 53) (.tmp 61) 22 24 (.agg #[(.int .i64 0), (.int .i64 0), (.string ⟨#[]⟩), (.slice none 0 0), (.int .i64 0), (.int .i64 0)]) 72 rfl Try.underlying22 info24 rfl (by decide) (by omega) u163003 x163003_3 (⟨t169, t170, t171, t172, t175, t176⟩ : S24) [.int .i64 t169, .int .i64 t170, .string t171, .slice Ao58 t172.length co58, .int .i64 t175, .int .i64 t176] (fun k_ => k_ ≠ gb157 ∧ k_ ≠ gb158 ∧ k_ ≠ gb162) (fun k_ => (fun k_ => k_ ≠ gb157 ∧ k_ ≠ gb158 ∧ k_ ≠ gb162) k_ ∧ some k_ ≠ (u163003 : Value).ownBlock) rfl rfl ?aP (fun _ hk => hk) ?aF ?aO ?aB ?aS ?aL ?_
  (case aP => exact k24_mkM _ _ _ (⟨t169, t170, t171, t172, t175, t176⟩ : S24) (Kd.R_mono (HO174.out) (fun k_ hk => ⟨⟨hk.1.1.2, ⟨hk.1.2, hk.2⟩⟩, hk.1.1.1.2⟩)))
  (case aB => exact HB.out)
  (case aF => exact (fun k_ hk => ⟨Kd.freshB (g := gb157) (o := .cells #[.int .i64 a0_0, .int .i64 a0_1, .string a0_2, .slice (some ad168) l0_3.length c0_3, .int .i64 a0_4, .int .i64 a0_5] 24 (0, 0)) (by exact BK157.out) k_ hk, Kd.freshB (g := gb158) (o := .cells #[.int .i64 0, .int .i64 0, .string (⟨#[]⟩ : ByteArray), .slice none 0 0, .int .i64 0, .int .i64 0] 24 (0, 0)) (by exact BK158.out) k_ hk, Kd.freshB (g := gb162) (o := .cells #[.int .i64 a0_0, .int .i64 x163001_26, .string a0_2, u163003, .int .i64 a0_4, .int .i64 a0_5] 24 (0, 0)) (by exact BK162.out) k_ hk⟩))
  (case aO => exact (by exact Kd.R_mono HO_163003.out (fun _ hk => ⟨hk.1.1, ⟨hk.1.2.1, hk.1.2.2⟩⟩)))
  (case aS => exact (below_size HB.out))
  (case aL => have := LMc51.out; omega)
  intro v178 w57 ho hb hg hat
  rw [← Ny177.out] at ho
  have n0_ := Aside0.mk (blk_grown (g := gb157) (o := .cells #[.int .i64 a0_0, .int .i64 a0_1, .string a0_2, .slice (some ad168) l0_3.length c0_3, .int .i64 a0_4, .int .i64 a0_5] 24 (0, 0)) (by exact BK157.out) hg (Kd.R_away HO_163003.out (fun _ hk => hk.1.1)))
  have n1_ := Aside0.mk (blk_grown (g := gb158) (o := .cells #[.int .i64 0, .int .i64 0, .string (⟨#[]⟩ : ByteArray), .slice none 0 0, .int .i64 0, .int .i64 0] 24 (0, 0)) (by exact BK158.out) hg (Kd.R_away HO_163003.out (fun _ hk => hk.1.2.1)))
  have n2_ := Aside0.mk (blk_grown (g := gb162) (o := .cells #[.int .i64 a0_0, .int .i64 x163001_26, .string a0_2, u163003, .int .i64 a0_4, .int .i64 a0_5] 24 (0, 0)) (by exact BK162.out) hg (Kd.R_away HO_163003.out (fun _ hk => hk.1.2.2)))
  have n3_ := Aside0.mk (hb)
  have n4_ := Aside0.mk (ho)
  clear BK157
  clear BK158
  clear BK162
  clear HB
  clear HO_163003
  clear HO174
  have BK157 := n0_
  have BK158 := n1_
  have BK162 := n2_
  have HB := n3_
  have HO179 := n4_
  clear n0_ n1_ n2_ n3_ n4_
  clear ho hb hg hat
  obtain ⟨Ao59, co59, eo59⟩ := Kd.R_slice HO179.out
  (subst eo59)
  refine hK.out _ _ ⟨(blk_cell BK162.out 0).trans rfl, (blk_cell BK162.out 1).trans rfl, (blk_cell BK162.out 2).trans rfl, (blk_cell BK162.out 3).trans rfl, (blk_cell BK162.out 4).trans rfl, (blk_cell BK162.out 5).trans rfl, (blk_cell BK157.out 0).trans rfl, (blk_cell BK157.out 1).trans rfl, (blk_cell BK157.out 2).trans rfl, (blk_cell BK157.out 3).trans rfl, (blk_cell BK157.out 4).trans rfl, (blk_cell BK157.out 5).trans rfl, (pw_cell_below HB.out hw168_0), (pw_cell_below HB.out hw168_1), (pw_cell_below HB.out hw168_2), (pw_cell_below HB.out hw168_3), (pw_cell_below HB.out hw168_4), (pw_cell_below HB.out hw168_5)⟩ (fun hHeld => ?_)
  clear hK K
  refine norm_ (a' := ?_) ?_ ?_
  rotate_left
  · show Act.put _ (some 62) _ = _
    simp only [Act.put, sa_, sz_, ss_, i64_w, i32_w]
    rfl
  refine pure_ (i := 11) (N := some 63) (v := ?_) (a' := ?_) (bl 13 4095) rfl rfl (any_of HT_.out (by kernel_rfl)) (fun _ _ _ h => h) (Or.inl ⟨by rfl, ?_⟩) ?_ ?_
  rotate_left
  · intro w'; go_simp; with_reducible rfl
  rotate_left
  · simp only [Act.put, sa_, sz_, ss_, i64_w, i32_w]; rfl
  refine last_ (i := 12) (N := none) (bl 13 8191) rfl rfl (one_of HT_.out (by kernel_rfl)) (by decide) (fun K hK => ?_)
  have hs60 : w57.cell? ⟨gb162, 3, none⟩ = some (u163003) := (blk_cell BK162.out 3).trans rfl
  have hfs60 := blk_frozen BK162.out 3
  have hns60_0 := NB157_162.out
  have hns60_1 := NB158_162.out
  have hms60_0 := NB162_157.out
  have hms60_1 := NB162_158.out
  refine skip_ (w1 := ?_) (by rfl) rfl ?_ ?_
  rotate_left
  · go_simp
    rfl
  refine hK.out _ _ ?_
  clear hK K
  refine done_ (done_of HT_.out (by kernel_rfl)) ?_
  try go_wp2
  go_roundg k3
  case measure => have := HJ2.out; have := HJ26.out; have := HK3.out; omega
  case rel => exact ⟨(wrap64 (x6_3 + 1)), (y177), (.slice Ao59 y177.length co59), (by (rfl)), H', ⟨by have := HJ2.out; have := HJ26.out; have := HK3.out; omega⟩, ⟨by exact Kd.R_mono (Kd.R_far (p := ⟨gb162, 3, none⟩) (Kd.R_mono HO179.out (fun k_ hk => (⟨hk, hk.2.2⟩ : _ ∧ k_ ≠ gb162))) (fun _ hk => hk.2) (.slice Ao59 y177.length co59)) (fun _ hk => ⟨hk.1.1, ⟨hk.1.2.1, hk.1.2.2⟩⟩)⟩, ⟨by refine blk_far ?_ NB157_162.out _; exact BK157.out⟩, ⟨by refine blk_far ?_ NB158_162.out _; exact BK158.out⟩, ⟨by refine blk_put (cs := #[.int .i64 a0_0, .int .i64 x163001_26, .string a0_2, u163003, .int .i64 a0_4, .int .i64 a0_5]) ?_ 3 _ rfl; exact BK162.out⟩, ⟨by repeat (with_reducible first | exact HB.out | refine below_set ?_ GE162.out)⟩⟩
end Go.Proofs.Ytgjmidpoebnieaa.PDm
