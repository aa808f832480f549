-- SLIM: a printed text of which the unused ways are cut off
-- PRINTED by print.py (a twelfth state) out of the translation. Not trusted: Lean checks it.
import Derived.Test.YtgjmidpoebnieaaPDmx0
import Derived.Test.YtgjmidpoebnieaaPDmx4
import Derived.Test.YtgjmidpoebnieaaPDmx6
namespace Go.Proofs.Ytgjmidpoebnieaa.PDm
open Go.RowKit Go.Proofs.YtgjmidpoebnieaaW.PrintWords Go.Proofs.YtgjmidpoebnieaaW.PrintLast Go.Proofs.YtgjmidpoebnieaaW.PrintMore
attribute [local go_sem] max2_int min2_int max_two min_two max_three min_three max_four min_four   -- for this text's walks alone
set_option linter.unusedVariables false
set_option linter.unusedSimpArgs false

/-! ### notaryref32_Perm: function 17 -/
mutual
def notaryref32_Perm.j0 : Nat → List Int → List Int → Bool → Int → Int → ByteArray → List (S24) → Int → Int → Option (Int × Int × ByteArray × (List (S24)) × Int × Int × Bool)
  | 0, _, _, _, _, _, _, _, _, _ => none
  | k + 1, x1, x6, x24, x181000, x181001, x181002, x181003, x181004, x181005 => if x24 = true then (some (0, 0, (⟨#[]⟩ : ByteArray), ([] : List (S24)), 0, 0, false)) else (notaryref32_Perm.l0 k x1 x6 (([] : List (S24))) 0 x181000 x181001 x181002 x181003 x181004 x181005)
def notaryref32_Perm.l0 : Nat → List Int → List Int → List (S24) → Int → Int → Int → ByteArray → List (S24) → Int → Int → Option (Int × Int × ByteArray × (List (S24)) × Int × Int × Bool)
  | 0, _, _, _, _, _, _, _, _, _, _ => none
  | k + 1, x1, x6, x8, x9, x181000, x181001, x181002, x181003, x181004, x181005 => if x9 < (x1.length : Int) then (if 0 ≤ x9 then (if 0 ≤ (rd x1 x9) then (if (rd x1 x9) < (x181003.length : Int) then ((notaryref32_Renumbered.f k ((rd_T24 x181003 (rd x1 x9)).f0) ((rd_T24 x181003 (rd x1 x9)).f1) ((rd_T24 x181003 (rd x1 x9)).f2) ((rd_T24 x181003 (rd x1 x9)).f3) ((rd_T24 x181003 (rd x1 x9)).f4) ((rd_T24 x181003 (rd x1 x9)).f5) x6).bind fun bt191 => (if x8.length < 1954687338268 then (notaryref32_Perm.l0 k x1 x6 (x8 ++ [(⟨bt191.1, bt191.2.1, bt191.2.2.1, bt191.2.2.2.1, bt191.2.2.2.2.1, bt191.2.2.2.2.2⟩ : S24)]) (wrap64 (x9 + 1)) x181000 x181001 x181002 x181003 x181004 x181005) else (none))) else (none)) else (none)) else (none)) else (some (x181000, x181001, x181002, x8, x181004, x181005, true))
end
def notaryref32_Perm.f (k : Nat) (a0_0 : Int) (a0_1 : Int) (a0_2 : ByteArray) (l0_3 : List (S24)) (a0_4 : Int) (a0_5 : Int) (l1 : List Int) : Option (Int × Int × ByteArray × (List (S24)) × Int × Int × Bool) := (notaryref32_To.f k l1 (l0_3.length : Int)).bind fun bt182 => (if a0_0 = 36 then (notaryref32_Perm.j0 k l1 bt182.1 (!bt182.2) a0_0 a0_1 a0_2 l0_3 a0_4 a0_5) else (notaryref32_Perm.j0 k l1 bt182.1 true a0_0 a0_1 a0_2 l0_3 a0_4 a0_5))
theorem notaryref32_Perm.mono_l : ∀ k, (∀ y0 y1 y2 y3 y4 y5 y6 y7 y8, LeO (notaryref32_Perm.j0 k y0 y1 y2 y3 y4 y5 y6 y7 y8) (notaryref32_Perm.j0 (k + 1) y0 y1 y2 y3 y4 y5 y6 y7 y8)) ∧ (∀ y0 y1 y2 y3 y4 y5 y6 y7 y8 y9, LeO (notaryref32_Perm.l0 k y0 y1 y2 y3 y4 y5 y6 y7 y8 y9) (notaryref32_Perm.l0 (k + 1) y0 y1 y2 y3 y4 y5 y6 y7 y8 y9))
  | 0 => ⟨fun _ _ _ _ _ _ _ _ _ r h => by simp [notaryref32_Perm.j0] at h, fun _ _ _ _ _ _ _ _ _ _ r h => by simp [notaryref32_Perm.l0] at h⟩
  | k + 1 => by
    obtain ⟨ih0, ih1⟩ := notaryref32_Perm.mono_l k
    refine ⟨?_, ?_⟩
    · intro y0 y1 y2 y3 y4 y5 y6 y7 y8
      unfold notaryref32_Perm.j0
      repeat' first | (with_reducible exact ih1 _ _ _ _ _ _ _ _ _ _) | (with_reducible exact LeO.refl _) | (with_reducible refine LeO.ite ?_ ?_)
    · intro y0 y1 y2 y3 y4 y5 y6 y7 y8 y9
      unfold notaryref32_Perm.l0
      repeat' first | (with_reducible exact ih1 _ _ _ _ _ _ _ _ _ _) | (with_reducible exact notaryref32_Renumbered.mono _ _ _ _ _ _ _ _) | (with_reducible exact LeO.refl _) | (with_reducible refine LeO.ite ?_ ?_) | (with_reducible refine LeO.bind ?_ (fun _ => ?_))
theorem notaryref32_Perm.mono : ∀ a0 a1 a2 a3 a4 a5 a6 k, LeO (notaryref32_Perm.f k a0 a1 a2 a3 a4 a5 a6) (notaryref32_Perm.f (k + 1) a0 a1 a2 a3 a4 a5 a6) := by
  intro a0 a1 a2 a3 a4 a5 a6 k
  obtain ⟨ih0, ih1⟩ := notaryref32_Perm.mono_l k
  unfold notaryref32_Perm.f
  repeat' first | (with_reducible exact ih0 _ _ _ _ _ _ _ _ _) | (with_reducible exact notaryref32_To.mono _ _ _) | (with_reducible refine LeO.ite ?_ ?_) | (with_reducible refine LeO.bind ?_ (fun _ => ?_))
def notaryref32_Perm.T8 : Bool × List (List Nat × List Nat) := (true, [([], []), ([], []), ([1], [1]), ([], []), ([], []), ([3, 4], [3, 4]), ([5], [5]), ([2, 6], [2, 6]), ([7], [7]), ([], []), ([8, 9], [8, 9]), ([10], [10]), ([0, 11, 10], [0, 11]), ([12, 12, 0, 1, 2, 3, 4, 5, 6, 7, 8, 9, 10, 11, 12], [0, 12])])
def notaryref32_Perm.B8 : List Nat := [0, 0, 2, 0, 0, 24, 56, 126, 254, 0, 1022, 2046, 4095, 8191]
theorem notaryref32_Perm.tab8 : rtab .any (opsOf Try.f17 8) = notaryref32_Perm.T8 := by kernel_rfl
theorem notaryref32_Perm.bits8 : waitsOk notaryref32_Perm.T8.2 notaryref32_Perm.B8 = true := by kernel_rfl
set_option maxHeartbeats 8000000 in
set_option maxRecDepth 100000 in
theorem notaryref32_Perm.calls (k : Nat) (a0_0 : Int) (a0_1 : Int) (a0_2 : ByteArray) (A0_3 : Option Addr) (c0_3 : Nat) (l0_3 : List (S24)) (a0_4 : Int) (a0_5 : Int) (A1 : Option Addr) (c1 : Nat) (l1 : List Int) (r1 : Int) (r2 : Int) (r3 : ByteArray) (r4 : List (S24)) (r5 : Int) (r6 : Int) (r7 : Bool) (w : World) (hr0_3 : Kd.C k24 w A0_3 l0_3.length l0_3) (hc0_3 : l0_3.length ≤ c0_3) (hr1 : Kd.C (Kd.int .i64) w A1 l1.length l1) (hc1 : l1.length ≤ c1) (h : notaryref32_Perm.f k a0_0 a0_1 a0_2 l0_3 a0_4 a0_5 l1 = some (r1, r2, r3, r4, r5, r6, r7)) :
    Calls Try.prog 17 #[.agg #[.int .i64 a0_0, .int .i64 a0_1, .string a0_2, .slice A0_3 l0_3.length c0_3, .int .i64 a0_4, .int .i64 a0_5], .slice A1 l1.length c1] w fun e w' => ∃ v3_ : Value, e = .returned (.tuple #[.agg #[.int .i64 r1, .int .i64 r2, .string r3, v3_, .int .i64 r5, .int .i64 r6], .bool r7]) ∧ Kd.R k24 24 w' w.heap.size (fun _ => True) v3_ r4 ∧ Below w.heap.size w w' := by
  have hu24 := Try.underlying24
  have HR0_3 := Aside0.mk hr0_3
  have HC0_3 := Aside0.mk hc0_3
  clear hr0_3 hc0_3
  have HR1 := Aside0.mk hr1
  have HC1 := Aside0.mk hc1
  clear hr1 hc1
  have HB := Aside0.mk (Below.refl w.heap.size w)
  have H : ((notaryref32_To.f k l1 (l0_3.length : Int)).bind fun bt182 => (if a0_0 = 36 then (notaryref32_Perm.j0 k l1 bt182.1 (!bt182.2) a0_0 a0_1 a0_2 l0_3 a0_4 a0_5) else (notaryref32_Perm.j0 k l1 bt182.1 true a0_0 a0_1 a0_2 l0_3 a0_4 a0_5))) = some (r1, r2, r3, r4, r5, r6, r7) := h
  clear h
  replace H := Option.bind_eq_some_iff.mp H
  obtain ⟨⟨t182, t183⟩, A30, H⟩ := H
  replace H : (if a0_0 = 36 then (notaryref32_Perm.j0 k l1 t182 (!t183) a0_0 a0_1 a0_2 l0_3 a0_4 a0_5) else (notaryref32_Perm.j0 k l1 t182 true a0_0 a0_1 a0_2 l0_3 a0_4 a0_5)) = some (r1, r2, r3, r4, r5, r6, r7) := H
  have A3 := Aside0.mk A30
  clear A30
  have HC4 := Aside0.mk H
  clear H
  go_enter Try.func17, Try.ntmps17
  go_upto_region 2 with (first | ((with_reducible refine gate_dst (N := 2) rfl ?_); refine box_event ?hg (N := 2) ?hd (cs := #[.int .i64 a0_0, .int .i64 a0_1, .string a0_2, .slice A0_3 l0_3.length c0_3, .int .i64 a0_4, .int .i64 a0_5]) (t := 24) ?hr ?_; (case hd => rfl); (case hg => rfl); (case hr => (go_simp; done)); intro gb180 hg w5 hbox hb; have n0_ := Aside0.mk (below_step HB.out hb); have n1_ := Aside0.mk (hbox); have n2_ := Aside0.mk ((by rw [hg]; exact (below_size HB.out) : w.heap.size ≤ gb180)); have n3_ := Aside0.mk ((by rw [hg]; exact (below_size HB.out) : w.heap.size ≤ gb180)); clear HB; have HB := n0_; have BK180 := n1_; have GW180 := n2_; have GE180 := n3_; clear n0_ n1_ n2_ n3_; clear hb hbox hg) | ((with_reducible refine gate_dst (N := 4) rfl ?_); refine box_event ?hg (N := 4) ?hd (cs := #[.int .i64 0, .int .i64 0, .string (⟨#[]⟩ : ByteArray), .slice none 0 0, .int .i64 0, .int .i64 0]) (t := 24) ?hr ?_; (case hd => rfl); (case hg => rfl); (case hr => (go_simp; done)); intro gb181 hg w6 hbox hb; have n0_ := Aside0.mk (blk_below (g := gb180) (o := .cells #[.int .i64 a0_0, .int .i64 a0_1, .string a0_2, .slice A0_3 l0_3.length c0_3, .int .i64 a0_4, .int .i64 a0_5] 24 (0, 0)) (by exact BK180.out) hb); have n1_ := Aside0.mk (below_step HB.out hb); have n2_ := Aside0.mk (hbox); have n3_ := Aside0.mk ((by rw [hg]; exact (below_size HB.out) : w.heap.size ≤ gb181)); have n4_ := Aside0.mk ((by rw [hg]; exact (below_size HB.out) : w.heap.size ≤ gb181)); have n5_ := Aside0.mk ((by rw [hg]; exact Nat.ne_of_lt (blk_lt (g := gb180) (o := .cells #[.int .i64 a0_0, .int .i64 a0_1, .string a0_2, .slice A0_3 l0_3.length c0_3, .int .i64 a0_4, .int .i64 a0_5] 24 (0, 0)) (by exact BK180.out)) : gb180 ≠ gb181)); have n6_ := Aside0.mk ((by rw [hg]; exact Nat.ne_of_gt (blk_lt (g := gb180) (o := .cells #[.int .i64 a0_0, .int .i64 a0_1, .string a0_2, .slice A0_3 l0_3.length c0_3, .int .i64 a0_4, .int .i64 a0_5] 24 (0, 0)) (by exact BK180.out)) : gb181 ≠ gb180)); clear BK180; clear HB; have BK180 := n0_; have HB := n1_; have BK181 := n2_; have GW181 := n3_; have GE181 := n4_; have NB180_181 := n5_; have NB181_180 := n6_; clear n0_ n1_ n2_ n3_ n4_ n5_ n6_; clear hb hbox hg; have hnb7 := NB180_181.out; have hnc7 := NB181_180.out; have hcz8_0 : w6.cell? ⟨gb180, 0, none⟩ = some (.int .i64 a0_0) := (blk_cell BK180.out 0).trans rfl; have hcz8_1 : w6.cell? ⟨gb180, 1, none⟩ = some (.int .i64 a0_1) := (blk_cell BK180.out 1).trans rfl; have hcz8_2 : w6.cell? ⟨gb180, 2, none⟩ = some (.string a0_2) := (blk_cell BK180.out 2).trans rfl; have hcz8_3 : w6.cell? ⟨gb180, 3, none⟩ = some (.slice A0_3 l0_3.length c0_3) := (blk_cell BK180.out 3).trans rfl; have hcz8_4 : w6.cell? ⟨gb180, 4, none⟩ = some (.int .i64 a0_4) := (blk_cell BK180.out 4).trans rfl; have hcz8_5 : w6.cell? ⟨gb180, 5, none⟩ = some (.int .i64 a0_5) := (blk_cell BK180.out 5).trans rfl; have hfz8_0 := blk_frozen BK180.out 0; have hfz8_1 := blk_frozen BK180.out 1; have hfz8_2 := blk_frozen BK180.out 2; have hfz8_3 := blk_frozen BK180.out 3; have hfz8_4 := blk_frozen BK180.out 4; have hfz8_5 := blk_frozen BK180.out 5) | ((with_reducible refine gate_callee (f := 11) rfl ?_); refine goesL_ (some 15) rfl rfl Try.func11 (by kernel_rfl) rfl #[.slice A1 l1.length c1, .int .i64 (l0_3.length : Int)] rfl (by (try simp only [List.map_toArray, List.map_cons, List.map_nil]); (rfl)) ?_; (with_reducible refine (notaryref32_To.calls k _ _ l1 (l0_3.length : Int) t182 t183 _ ?side1 ?side2 A3.out).mono ?_); (case side1 => exact Kd.C_below HR1.out HB.out); (case side2 => exact HC1.out); rintro e w9 ⟨v184, rfl, ho0, hb⟩; refine ⟨_, rfl, ?_⟩; have n0_ := Aside0.mk (Kd.R_lower ho0 (below_size HB.out)); have n1_ := Aside0.mk (blk_below (g := gb180) (o := .cells #[.int .i64 a0_0, .int .i64 a0_1, .string a0_2, .slice A0_3 l0_3.length c0_3, .int .i64 a0_4, .int .i64 a0_5] 24 (0, 0)) (by exact BK180.out) hb); have n2_ := Aside0.mk (blk_below (g := gb181) (o := .cells #[.int .i64 0, .int .i64 0, .string (⟨#[]⟩ : ByteArray), .slice none 0 0, .int .i64 0, .int .i64 0] 24 (0, 0)) (by exact BK181.out) hb); have n3_ := Aside0.mk (below_step HB.out hb); clear BK180; clear BK181; clear HB; have HO185 := n0_; have BK180 := n1_; have BK181 := n2_; have HB := n3_; clear n0_ n1_ n2_ n3_; (try clear hb); (try clear ho0)))
  (skip)
  go_cut [24] (fun v24 wc => ∃ (kq : Nat) (x24_3 : Bool), v24 = .bool x24_3 ∧ Aside0 (notaryref32_Perm.j0 kq l1 t182 x24_3 a0_0 a0_1 a0_2 l0_3 a0_4 a0_5 = some (r1, r2, r3, r4, r5, r6, r7)) ∧ Aside0 (kq ≤ k) ∧ Aside0 (Kd.R (Kd.int .i64) 3 wc w.heap.size (fun _ => True) v184 t182) ∧ Aside0 (wc.heap[gb180]? = some (.cells #[.int .i64 a0_0, .int .i64 a0_1, .string a0_2, (.slice A0_3 l0_3.length c0_3), .int .i64 a0_4, .int .i64 a0_5] 24 (0, 0))) ∧ Aside0 (wc.heap[gb181]? = some (.cells #[.int .i64 0, .int .i64 0, .string (⟨#[]⟩ : ByteArray), (.slice none 0 0), .int .i64 0, .int .i64 0] 24 (0, 0))) ∧ Aside0 (Below w.heap.size w wc))
  case first =>
    have H := HC4.out
    clear HC4
    by_cases c10 : a0_0 = 36
    rotate_left
    · rw [if_neg c10] at H
      have c10b0 : (a0_0 == 36) = false := beq_eq_false_iff_ne.mpr c10
      have c10b1 : (a0_0 != 36) = true := bne_iff_ne.mpr c10
      (skip)
      have H' := Aside0.mk H
      clear H
      have hnb13 := NB180_181.out
      have hnc13 := NB181_180.out
      have hcz14_0 : w9.cell? ⟨gb180, 0, none⟩ = some (.int .i64 a0_0) := (blk_cell BK180.out 0).trans rfl
      have hcz14_1 : w9.cell? ⟨gb180, 1, none⟩ = some (.int .i64 a0_1) := (blk_cell BK180.out 1).trans rfl
      have hcz14_2 : w9.cell? ⟨gb180, 2, none⟩ = some (.string a0_2) := (blk_cell BK180.out 2).trans rfl
      have hcz14_3 : w9.cell? ⟨gb180, 3, none⟩ = some (.slice A0_3 l0_3.length c0_3) := (blk_cell BK180.out 3).trans rfl
      have hcz14_4 : w9.cell? ⟨gb180, 4, none⟩ = some (.int .i64 a0_4) := (blk_cell BK180.out 4).trans rfl
      have hcz14_5 : w9.cell? ⟨gb180, 5, none⟩ = some (.int .i64 a0_5) := (blk_cell BK180.out 5).trans rfl
      have hfz14_0 := blk_frozen BK180.out 0
      have hfz14_1 := blk_frozen BK180.out 1
      have hfz14_2 := blk_frozen BK180.out 2
      have hfz14_3 := blk_frozen BK180.out 3
      have hfz14_4 := blk_frozen BK180.out 4
      have hfz14_5 := blk_frozen BK180.out 5
      go_wp2
      go_meet
      case rel => exact ⟨_, (true), (by (rfl)), H', ⟨by (omega)⟩, ⟨by exact HO185.out⟩, ⟨by exact BK180.out⟩, ⟨by exact BK181.out⟩, ⟨HB.out⟩⟩
    rw [if_pos c10] at H
    have c10b0 : (a0_0 == 36) = true := beq_iff_eq.mpr c10
    have c10b1 : (a0_0 != 36) = false := bne_eq_false_iff_eq.mpr c10
    clear c10
    (skip)
    have H' := Aside0.mk H
    clear H
    have hnb11 := NB180_181.out
    have hnc11 := NB181_180.out
    have hcz12_0 : w9.cell? ⟨gb180, 0, none⟩ = some (.int .i64 a0_0) := (blk_cell BK180.out 0).trans rfl
    have hcz12_1 : w9.cell? ⟨gb180, 1, none⟩ = some (.int .i64 a0_1) := (blk_cell BK180.out 1).trans rfl
    have hcz12_2 : w9.cell? ⟨gb180, 2, none⟩ = some (.string a0_2) := (blk_cell BK180.out 2).trans rfl
    have hcz12_3 : w9.cell? ⟨gb180, 3, none⟩ = some (.slice A0_3 l0_3.length c0_3) := (blk_cell BK180.out 3).trans rfl
    have hcz12_4 : w9.cell? ⟨gb180, 4, none⟩ = some (.int .i64 a0_4) := (blk_cell BK180.out 4).trans rfl
    have hcz12_5 : w9.cell? ⟨gb180, 5, none⟩ = some (.int .i64 a0_5) := (blk_cell BK180.out 5).trans rfl
    have hfz12_0 := blk_frozen BK180.out 0
    have hfz12_1 := blk_frozen BK180.out 1
    have hfz12_2 := blk_frozen BK180.out 2
    have hfz12_3 := blk_frozen BK180.out 3
    have hfz12_4 := blk_frozen BK180.out 4
    have hfz12_5 := blk_frozen BK180.out 5
    go_wp2
    go_meet
    case rel => exact ⟨_, (!t183), (by (rfl)), H', ⟨by (omega)⟩, ⟨by exact HO185.out⟩, ⟨by exact BK180.out⟩, ⟨by exact BK181.out⟩, ⟨HB.out⟩⟩
  clear HC4
  try clear hcz8_0
  try clear hcz8_1
  try clear hcz8_2
  try clear hcz8_3
  try clear hcz8_4
  try clear hcz8_5
  try clear hfz8_0
  try clear hfz8_1
  try clear hfz8_2
  try clear hfz8_3
  try clear hfz8_4
  try clear hfz8_5
  obtain ⟨kq, x24_3, rfl, HA, HJ3, HO_6, BK180, BK181, HB⟩ := hcut
  rcases kq with _ | kj3
  · exact absurd HA.out (by simp [notaryref32_Perm.j0])
  have H := HA.out
  clear HA
  simp only [notaryref32_Perm.j0] at H
  by_cases c15 : x24_3 = true
  · subst c15
    have H1 : (some (0, 0, (⟨#[]⟩ : ByteArray), ([] : List (S24)), 0, 0, false)) = some (r1, r2, r3, r4, r5, r6, r7) := by rw [if_pos rfl] at H; exact H
    clear H
    have H := H1
    clear H1
    simp only [Option.some.injEq, Prod.mk.injEq] at H
    obtain ⟨rfl, rfl, rfl, rfl, rfl, rfl, rfl⟩ := H
    have hnb16 := NB181_180.out
    have hnc16 := NB180_181.out
    have hcz17_0 : wc.cell? ⟨gb181, 0, none⟩ = some (.int .i64 0) := (blk_cell BK181.out 0).trans rfl
    have hcz17_1 : wc.cell? ⟨gb181, 1, none⟩ = some (.int .i64 0) := (blk_cell BK181.out 1).trans rfl
    have hcz17_2 : wc.cell? ⟨gb181, 2, none⟩ = some (.string (⟨#[]⟩ : ByteArray)) := (blk_cell BK181.out 2).trans rfl
    have hcz17_3 : wc.cell? ⟨gb181, 3, none⟩ = some (.slice none 0 0) := (blk_cell BK181.out 3).trans rfl
    have hcz17_4 : wc.cell? ⟨gb181, 4, none⟩ = some (.int .i64 0) := (blk_cell BK181.out 4).trans rfl
    have hcz17_5 : wc.cell? ⟨gb181, 5, none⟩ = some (.int .i64 0) := (blk_cell BK181.out 5).trans rfl
    have hfz17_0 := blk_frozen BK181.out 0
    have hfz17_1 := blk_frozen BK181.out 1
    have hfz17_2 := blk_frozen BK181.out 2
    have hfz17_3 := blk_frozen BK181.out 3
    have hfz17_4 := blk_frozen BK181.out 4
    have hfz17_5 := blk_frozen BK181.out 5
    go_wp2
    refine bodyPost_ret (results_ct rfl _ _ gb181 24 #[.int .i64 0, .int .i64 0, .string (⟨#[]⟩ : ByteArray), .slice none 0 0, .int .i64 0, .int .i64 0] (0, 0) _ rfl (by refine blk_put (cs := #[.int .i64 0, .int .i64 0, .string (⟨#[]⟩ : ByteArray), .slice none 0 0, .int .i64 0, .int .i64 0]) ?_ 5 _ rfl; refine blk_put (cs := #[.int .i64 0, .int .i64 0, .string (⟨#[]⟩ : ByteArray), .slice none 0 0, .int .i64 0, .int .i64 0]) ?_ 4 _ rfl; refine blk_put (cs := #[.int .i64 0, .int .i64 0, .string (⟨#[]⟩ : ByteArray), .slice none 0 0, .int .i64 0, .int .i64 0]) ?_ 3 _ rfl; refine blk_put (cs := #[.int .i64 0, .int .i64 0, .string (⟨#[]⟩ : ByteArray), .slice none 0 0, .int .i64 0, .int .i64 0]) ?_ 2 _ rfl; refine blk_put (cs := #[.int .i64 0, .int .i64 0, .string (⟨#[]⟩ : ByteArray), .slice none 0 0, .int .i64 0, .int .i64 0]) ?_ 1 _ rfl; refine blk_put (cs := #[.int .i64 0, .int .i64 0, .string (⟨#[]⟩ : ByteArray), .slice none 0 0, .int .i64 0, .int .i64 0]) ?_ 0 _ rfl; exact BK181.out) Try.underlying24 rfl (by kernel_rfl)) rfl ?_
    exact ⟨_, by (rfl), by (exact Kd.R_nil _ _ _ _ _), by repeat (with_reducible first | exact HB.out | refine below_set ?_ GE181.out)⟩
  replace c15 := Bool.eq_false_iff.mpr c15
  subst c15
  have H1 : (notaryref32_Perm.l0 kj3 l1 t182 (([] : List (S24))) 0 a0_0 a0_1 a0_2 l0_3 a0_4 a0_5) = some (r1, r2, r3, r4, r5, r6, r7) := by rw [if_neg (show ¬ (false = true) by decide)] at H; exact H
  clear H
  have H := H1
  clear H1
  obtain ⟨y186, hy186⟩ : ∃ y_ : List (S24), y_ = (([] : List (S24))) := ⟨_, rfl⟩
  replace H : (notaryref32_Perm.l0 kj3 l1 t182 y186 0 a0_0 a0_1 a0_2 l0_3 a0_4 a0_5) = some (r1, r2, r3, r4, r5, r6, r7) := by (rw [hy186]; with_reducible exact H)
  have Ny186 := Aside0.mk hy186
  clear hy186
  have H' := Aside0.mk H
  clear H
  go_wp2_with ((((with_reducible refine gate_dst (N := 26) rfl ?_); refine Kd.R_lit k24 _ 24 ?hg (N := 26) ?hd (xs := ([] : List (S24))) (inner := []) (ok := fun _ => True) (okp := fun _ => True) ?hr ?hp (fun _ hk => hk) trivial (Below.refl _ _) (Nat.le_refl _) (by simp) ?_; (case hd => rfl); (case hg => rfl); (case hr => (go_simp; done)); (case hp => exact (Reps.none _ _)); intro v187 w18 ho19 hb hg_ hnew_; clear hg_ hnew_; (rw [← Ny186.out] at ho19); have n0_ := Aside0.mk (Kd.R_below (by exact HO_6.out) hb); have n1_ := Aside0.mk (Kd.R_lower (Kd.R_newB (Kd.R_newB ho19 (g := gb180) (o := .cells #[.int .i64 a0_0, .int .i64 a0_1, .string a0_2, .slice A0_3 l0_3.length c0_3, .int .i64 a0_4, .int .i64 a0_5] 24 (0, 0)) (by exact BK180.out)) (g := gb181) (o := .cells #[.int .i64 0, .int .i64 0, .string (⟨#[]⟩ : ByteArray), .slice none 0 0, .int .i64 0, .int .i64 0] 24 (0, 0)) (by exact BK181.out)) (below_size HB.out)); have n2_ := Aside0.mk (blk_below (g := gb180) (o := .cells #[.int .i64 a0_0, .int .i64 a0_1, .string a0_2, .slice A0_3 l0_3.length c0_3, .int .i64 a0_4, .int .i64 a0_5] 24 (0, 0)) (by exact BK180.out) hb); have n3_ := Aside0.mk (blk_below (g := gb181) (o := .cells #[.int .i64 0, .int .i64 0, .string (⟨#[]⟩ : ByteArray), .slice none 0 0, .int .i64 0, .int .i64 0] 24 (0, 0)) (by exact BK181.out) hb); have n4_ := Aside0.mk (below_step HB.out hb); clear HO_6; clear BK180; clear BK181; clear HB; have HO_6 := n0_; have HO188 := n1_; have BK180 := n2_; have BK181 := n3_; have HB := n4_; clear n0_ n1_ n2_ n3_ n4_; clear hb ho19)))
  go_loopg [8, 9] kj3 (fun kq v8 v9 w' => ∃ (x8_2 : List (S24)) (x9_2 : Int), v9 = .int .i64 x9_2 ∧ Aside0 (notaryref32_Perm.l0 kq l1 t182 x8_2 x9_2 a0_0 a0_1 a0_2 l0_3 a0_4 a0_5 = some (r1, r2, r3, r4, r5, r6, r7)) ∧ Aside0 (kq ≤ kj3) ∧ Aside0 (Kd.R (Kd.int .i64) 3 w' w.heap.size (fun _ => True) v184 t182) ∧ Aside0 (Kd.R k24 24 w' w.heap.size (fun k_ => k_ ≠ gb180 ∧ k_ ≠ gb181) v8 x8_2) ∧ Aside0 (w'.heap[gb180]? = some (.cells #[.int .i64 a0_0, .int .i64 a0_1, .string a0_2, (.slice A0_3 l0_3.length c0_3), .int .i64 a0_4, .int .i64 a0_5] 24 (0, 0))) ∧ Aside0 (w'.heap[gb181]? = some (.cells #[.int .i64 0, .int .i64 0, .string (⟨#[]⟩ : ByteArray), (.slice none 0 0), .int .i64 0, .int .i64 0] 24 (0, 0))) ∧ Aside0 (Below w.heap.size w w'))
  case atStart => exact ⟨(y186), (0), (by (rfl)), H', ⟨Nat.le_refl _⟩, ⟨by exact HO_6.out⟩, ⟨by exact Kd.R_mono HO188.out (fun _ hk => ⟨hk.1.2, hk.2⟩)⟩, ⟨by exact BK180.out⟩, ⟨by exact BK181.out⟩, ⟨HB.out⟩⟩
  clear H'
  obtain ⟨x8_2, x9_2, rfl, HA, HK2, HO_6, HO_8, BK180, BK181, HB⟩ := hrel
  rcases gk with _ | k2
  · exact absurd HA.out (by simp [notaryref32_Perm.l0])
  have H := HA.out
  clear HA
  simp only [notaryref32_Perm.l0] at H
  by_cases c20 : x9_2 < (l1.length : Int)
  rotate_left
  · rw [if_neg c20] at H
    have c20b0 : decide (x9_2 < (l1.length : Int)) = false := decide_eq_false c20
    clear c20
    simp only [Option.some.injEq, Prod.mk.injEq] at H
    obtain ⟨rfl, rfl, rfl, rfl, rfl, rfl, rfl⟩ := H
    have hnb31 := NB180_181.out
    have hnc31 := NB181_180.out
    have hcz32_0 : wr.cell? ⟨gb180, 0, none⟩ = some (.int .i64 a0_0) := (blk_cell BK180.out 0).trans rfl
    have hcz32_1 : wr.cell? ⟨gb180, 1, none⟩ = some (.int .i64 a0_1) := (blk_cell BK180.out 1).trans rfl
    have hcz32_2 : wr.cell? ⟨gb180, 2, none⟩ = some (.string a0_2) := (blk_cell BK180.out 2).trans rfl
    have hcz32_3 : wr.cell? ⟨gb180, 3, none⟩ = some (.slice A0_3 l0_3.length c0_3) := (blk_cell BK180.out 3).trans rfl
    have hcz32_4 : wr.cell? ⟨gb180, 4, none⟩ = some (.int .i64 a0_4) := (blk_cell BK180.out 4).trans rfl
    have hcz32_5 : wr.cell? ⟨gb180, 5, none⟩ = some (.int .i64 a0_5) := (blk_cell BK180.out 5).trans rfl
    have hfz32_0 := blk_frozen BK180.out 0
    have hfz32_1 := blk_frozen BK180.out 1
    have hfz32_2 := blk_frozen BK180.out 2
    have hfz32_3 := blk_frozen BK180.out 3
    have hfz32_4 := blk_frozen BK180.out 4
    have hfz32_5 := blk_frozen BK180.out 5
    obtain ⟨Ao33, co33, eo33⟩ := Kd.R_slice HO_8.out
    subst eo33
    have hcz34_0 : wr.cell? ⟨gb181, 0, none⟩ = some (.int .i64 0) := (blk_cell BK181.out 0).trans rfl
    have hcz34_1 : wr.cell? ⟨gb181, 1, none⟩ = some (.int .i64 0) := (blk_cell BK181.out 1).trans rfl
    have hcz34_2 : wr.cell? ⟨gb181, 2, none⟩ = some (.string (⟨#[]⟩ : ByteArray)) := (blk_cell BK181.out 2).trans rfl
    have hcz34_3 : wr.cell? ⟨gb181, 3, none⟩ = some (.slice none 0 0) := (blk_cell BK181.out 3).trans rfl
    have hcz34_4 : wr.cell? ⟨gb181, 4, none⟩ = some (.int .i64 0) := (blk_cell BK181.out 4).trans rfl
    have hcz34_5 : wr.cell? ⟨gb181, 5, none⟩ = some (.int .i64 0) := (blk_cell BK181.out 5).trans rfl
    have hfz34_0 := blk_frozen BK181.out 0
    have hfz34_1 := blk_frozen BK181.out 1
    have hfz34_2 := blk_frozen BK181.out 2
    have hfz34_3 := blk_frozen BK181.out 3
    have hfz34_4 := blk_frozen BK181.out 4
    have hfz34_5 := blk_frozen BK181.out 5
    go_wp2
    refine bodyPost_ret (results_ct rfl _ _ gb181 24 #[.int .i64 a0_0, .int .i64 a0_1, .string a0_2, .slice Ao33 x8_2.length co33, .int .i64 a0_4, .int .i64 a0_5] (0, 0) _ rfl (by refine blk_put (cs := #[.int .i64 a0_0, .int .i64 a0_1, .string a0_2, .slice Ao33 x8_2.length co33, .int .i64 a0_4, .int .i64 0]) ?_ 5 _ rfl; refine blk_put (cs := #[.int .i64 a0_0, .int .i64 a0_1, .string a0_2, .slice Ao33 x8_2.length co33, .int .i64 0, .int .i64 0]) ?_ 4 _ rfl; refine blk_put (cs := #[.int .i64 a0_0, .int .i64 a0_1, .string a0_2, .slice none 0 0, .int .i64 0, .int .i64 0]) ?_ 3 _ rfl; refine blk_put (cs := #[.int .i64 a0_0, .int .i64 a0_1, .string (⟨#[]⟩ : ByteArray), .slice none 0 0, .int .i64 0, .int .i64 0]) ?_ 2 _ rfl; refine blk_put (cs := #[.int .i64 a0_0, .int .i64 0, .string (⟨#[]⟩ : ByteArray), .slice none 0 0, .int .i64 0, .int .i64 0]) ?_ 1 _ rfl; refine blk_put (cs := #[.int .i64 0, .int .i64 0, .string (⟨#[]⟩ : ByteArray), .slice none 0 0, .int .i64 0, .int .i64 0]) ?_ 0 _ rfl; exact BK181.out) Try.underlying24 rfl (by kernel_rfl)) rfl ?_
    exact ⟨_, by (rfl), by exact Kd.R_mono (Kd.R_far (p := ⟨gb181, 5, none⟩) (Kd.R_far (p := ⟨gb181, 4, none⟩) (Kd.R_far (p := ⟨gb181, 3, none⟩) (Kd.R_far (p := ⟨gb181, 2, none⟩) (Kd.R_far (p := ⟨gb181, 1, none⟩) (Kd.R_far (p := ⟨gb181, 0, none⟩) (Kd.R_mono HO_8.out (fun k_ hk => (⟨hk, hk.2⟩ : _ ∧ k_ ≠ gb181))) (fun _ hk => hk.2) (.int .i64 a0_0)) (fun _ hk => hk.2) (.int .i64 a0_1)) (fun _ hk => hk.2) (.string a0_2)) (fun _ hk => hk.2) (.slice Ao33 x8_2.length co33)) (fun _ hk => hk.2) (.int .i64 a0_4)) (fun _ hk => hk.2) (.int .i64 a0_5)) (fun _ hk => trivial), by repeat (with_reducible first | exact HB.out | refine below_set ?_ GE181.out)⟩


  rw [if_pos c20] at H
  have c20b0 : decide (x9_2 < (l1.length : Int)) = true := decide_eq_true c20
  clear c20
  by_cases c21 : 0 ≤ x9_2
  rotate_left
  · rw [if_neg c21] at H
    exact absurd H (by simp)
  rw [if_pos c21] at H
  have c21b0 : decide (0 ≤ x9_2) = true := decide_eq_true c21
  clear c21
  by_cases c22 : 0 ≤ (rd l1 x9_2)
  rotate_left
  · rw [if_neg c22] at H
    exact absurd H (by simp)
  rw [if_pos c22] at H
  have c22b0 : decide (0 ≤ (rd l1 x9_2)) = true := decide_eq_true c22
  clear c22
  by_cases c23 : (rd l1 x9_2) < (l0_3.length : Int)
  rotate_left
  · rw [if_neg c23] at H
    exact absurd H (by simp)
  rw [if_pos c23] at H
  have c23b0 : decide ((rd l1 x9_2) < (l0_3.length : Int)) = true := decide_eq_true c23
  clear c23
  replace H := Option.bind_eq_some_iff.mp H
  obtain ⟨⟨t191, t192, t193, t194, t197, t198⟩, A240, H⟩ := H
  replace H : (if x8_2.length < 1954687338268 then (notaryref32_Perm.l0 k2 l1 t182 (x8_2 ++ [(⟨t191, t192, t193, t194, t197, t198⟩ : S24)]) (wrap64 (x9_2 + 1)) a0_0 a0_1 a0_2 l0_3 a0_4 a0_5) else (none)) = some (r1, r2, r3, r4, r5, r6, r7) := H
  have A24 := Aside0.mk A240
  clear A240
  by_cases c25 : x8_2.length < 1954687338268
  rotate_left
  · rw [if_neg c25] at H
    exact absurd H (by simp)
  rw [if_pos c25] at H
  have LMc25 := Aside0.mk c25
  clear c25
  obtain ⟨y199, hy199⟩ : ∃ y_ : List (S24), y_ = (x8_2 ++ [(⟨t191, t192, t193, t194, t197, t198⟩ : S24)]) := ⟨_, rfl⟩
  replace H : (notaryref32_Perm.l0 k2 l1 t182 y199 (wrap64 (x9_2 + 1)) a0_0 a0_1 a0_2 l0_3 a0_4 a0_5) = some (r1, r2, r3, r4, r5, r6, r7) := by (rw [hy199]; with_reducible exact H)
  have Ny199 := Aside0.mk hy199
  clear hy199
  have H' := Aside0.mk H
  clear H
  try go_wp2
  have n0_ := Aside0.mk (Kd.R_drew HO_6.out)
  have n1_ := Aside0.mk (Kd.R_drew HO_8.out)
  have n2_ := Aside0.mk (blk_drew BK180.out)
  have n3_ := Aside0.mk (blk_drew BK181.out)
  have n4_ := Aside0.mk (below_drew1 HB.out)
  clear HO_6
  clear HO_8
  clear BK180
  clear BK181
  clear HB
  have HO_6 := n0_
  have HO_8 := n1_
  have BK180 := n2_
  have BK181 := n3_
  have HB := n4_
  clear n0_ n1_ n2_ n3_ n4_
  have p189 : 0 ≤ (x9_2 : Int) := of_decide_eq_true (by (with_reducible assumption))
  have q189 : x9_2 < (l1.length : Int) := of_decide_eq_true (by (with_reducible assumption))
  obtain ⟨ad189, e189, hx189_0⟩ := Kd.at_int HR1.out x9_2 p189 q189
  have hw189_0 := hx189_0
  cases e189
  replace hx189_0 := pw_cell_below HB.out hx189_0
  replace p189 := eq_true p189
  replace q189 := eq_true q189
  have p190 : 0 ≤ ((rd l1 x9_2) : Int) := of_decide_eq_true (by (with_reducible assumption))
  have q190 : (rd l1 x9_2) < (l0_3.length : Int) := of_decide_eq_true (by (with_reducible assumption))
  obtain ⟨ad190, A190_3, c190_3, e190, hx190_0, hx190_1, hx190_2, hx190_3, hx190_4, hx190_5, hl190_3, hi190_3⟩ := at_T24 HR0_3.out (rd l1 x9_2) p190 q190
  have hw190_5 := hx190_5
  have hw190_4 := hx190_4
  have hw190_3 := hx190_3
  have hw190_2 := hx190_2
  have hw190_1 := hx190_1
  have hw190_0 := hx190_0
  cases e190
  replace hx190_0 := pw_cell_below HB.out hx190_0
  replace hx190_1 := pw_cell_below HB.out hx190_1
  replace hx190_2 := pw_cell_below HB.out hx190_2
  replace hx190_3 := pw_cell_below HB.out hx190_3
  replace hx190_4 := pw_cell_below HB.out hx190_4
  replace hx190_5 := pw_cell_below HB.out hx190_5
  have HR190_3 := Aside0.mk hi190_3
  have HC190_3 := Aside0.mk hl190_3
  clear hi190_3 hl190_3
  replace p190 := eq_true p190
  replace q190 := eq_true q190
  obtain ⟨Ao27, co27, eo27⟩ := Kd.R_slice HO_6.out
  (subst eo27)
  refine start_ (n := 14) (S := fun w' => w'.cell? ⟨gb180, 0, none⟩ = some (.int .i64 a0_0) ∧ w'.cell? ⟨gb180, 1, none⟩ = some (.int .i64 a0_1) ∧ w'.cell? ⟨gb180, 2, none⟩ = some (.string a0_2) ∧ w'.cell? ⟨gb180, 3, none⟩ = some (.slice (some ad190) l0_3.length c0_3) ∧ w'.cell? ⟨gb180, 4, none⟩ = some (.int .i64 a0_4) ∧ w'.cell? ⟨gb180, 5, none⟩ = some (.int .i64 a0_5) ∧ w'.cell? (ad189.add (x9_2).toNat) = some (.int .i64 (rd l1 x9_2)) ∧ w'.cell? (ad190.add ((rd l1 x9_2).toNat * 6)) = some (.int .i64 ((rd_T24 l0_3 (rd l1 x9_2)).f0)) ∧ w'.cell? ⟨(ad190.add ((rd l1 x9_2).toNat * 6)).block, (ad190.add ((rd l1 x9_2).toNat * 6)).off + 1, none⟩ = some (.int .i64 ((rd_T24 l0_3 (rd l1 x9_2)).f1)) ∧ w'.cell? ⟨(ad190.add ((rd l1 x9_2).toNat * 6)).block, (ad190.add ((rd l1 x9_2).toNat * 6)).off + 2, none⟩ = some (.string ((rd_T24 l0_3 (rd l1 x9_2)).f2)) ∧ w'.cell? ⟨(ad190.add ((rd l1 x9_2).toNat * 6)).block, (ad190.add ((rd l1 x9_2).toNat * 6)).off + 3, none⟩ = some (.slice A190_3 ((rd_T24 l0_3 (rd l1 x9_2)).f3).length c190_3) ∧ w'.cell? ⟨(ad190.add ((rd l1 x9_2).toNat * 6)).block, (ad190.add ((rd l1 x9_2).toNat * 6)).off + 4, none⟩ = some (.int .i64 ((rd_T24 l0_3 (rd l1 x9_2)).f4)) ∧ w'.cell? ⟨(ad190.add ((rd l1 x9_2).toNat * 6)).block, (ad190.add ((rd l1 x9_2).toNat * 6)).off + 5, none⟩ = some (.int .i64 ((rd_T24 l0_3 (rd l1 x9_2)).f5))) (ds := []) (bl 14 0) (by kernel_rfl) rfl rfl ⟨(blk_cell BK180.out 0).trans rfl, (blk_cell BK180.out 1).trans rfl, (blk_cell BK180.out 2).trans rfl, (blk_cell BK180.out 3).trans rfl, (blk_cell BK180.out 4).trans rfl, (blk_cell BK180.out 5).trans rfl, (pw_cell_below HB.out hw189_0), (pw_cell_below HB.out hw190_0), (pw_cell_below HB.out hw190_1), (pw_cell_below HB.out hw190_2), (pw_cell_below HB.out hw190_3), (pw_cell_below HB.out hw190_4), (pw_cell_below HB.out hw190_5)⟩ (fun hHeld => ?_); refine with_tabW notaryref32_Perm.tab8 notaryref32_Perm.bits8 (fun HT_ HW_ => ?_)
  generalize wr.drew = w26 at HO_6 HO_8 BK180 BK181 HB HR190_3 hx189_0 hx190_0 hx190_1 hx190_2 hx190_3 hx190_4 hx190_5 hHeld ⊢
  refine pure_ (i := 0) (N := some 33) (v := ?_) (a' := ?_) (bl 14 1) rfl rfl (any_of HT_.out (by kernel_rfl)) (fun _ _ _ h => h) (Or.inl ⟨by rfl, ?_⟩) ?_ ?_
  rotate_left
  · intro w'; go_simp; with_reducible rfl
  rotate_left
  · simp only [Act.put, sa_, sz_, ss_, i64_w, i32_w]; rfl
  refine pure_ (i := 1) (N := some 34) (v := ?_) (a' := ?_) (bl 14 3) rfl rfl (any_of HT_.out (by kernel_rfl)) (fun _ _ _ h => h) (Or.inl ⟨by rfl, ?_⟩) ?_ ?_
  rotate_left
  · intro w'; go_simp; with_reducible rfl
  rotate_left
  · simp only [Act.put, sa_, sz_, ss_, i64_w, i32_w]; rfl
  refine pure_ (i := 3) (N := some 36) (v := ?_) (a' := ?_) (bl 14 11) rfl rfl (any_of HT_.out (by kernel_rfl)) (fun _ _ _ h => h) (Or.inl ⟨by rfl, ?_⟩) ?_ ?_
  rotate_left
  · intro w'; go_simp; with_reducible rfl
  rotate_left
  · simp only [Act.put, sa_, sz_, ss_, i64_w, i32_w]; rfl
  refine pure_ (i := 4) (N := some 37) (v := ?_) (a' := ?_) (bl 14 27) rfl rfl (any_of HT_.out (by kernel_rfl)) (fun _ _ _ h => h) (Or.inl ⟨by rfl, ?_⟩) ?_ ?_
  rotate_left
  · intro w'; go_simp; with_reducible rfl
  rotate_left
  · simp only [Act.put, sa_, sz_, ss_, i64_w, i32_w]; rfl
  refine pure_ (i := 5) (N := some 38) (v := ?_) (a' := ?_) (bl 14 59) rfl rfl (any_of HT_.out (by kernel_rfl)) (fun _ _ _ h => h) (Or.inl ⟨by rfl, ?_⟩) ?_ ?_
  rotate_left
  · intro w'; go_simp; with_reducible rfl
  rotate_left
  · simp only [Act.put, sa_, sz_, ss_, i64_w, i32_w]; rfl
  refine pure_ (i := 9) (N := some 42) (v := ?_) (a' := ?_) (bl 14 571) rfl rfl (any_of HT_.out (by kernel_rfl)) (fun _ _ _ h => h) (Or.inl ⟨by rfl, ?_⟩) ?_ ?_
  rotate_left
  · intro w'; go_simp; with_reducible rfl
  rotate_left
  · simp only [Act.put, sa_, sz_, ss_, i64_w, i32_w]; rfl
  refine take_ (i := 2) (N := some 35) (v := ?_) (a' := ?_) (bl 14 575) rfl rfl (take_ofW HT_.out HW_.out (by kernel_rfl)) (fun _ _ _ h => h) (Or.inl ⟨by rfl, ?_⟩) hHeld ?_ ?_
  rotate_left
  · rintro w' ⟨s0, s1, s2, s3, s4, s5, s6, s7, s8, s9, s10, s11, s12⟩
    go_simp
    with_reducible rfl
  rotate_left
  · simp only [Act.put, sa_, sz_, ss_, i64_w, i32_w]; rfl
  refine take_ (i := 6) (N := some 39) (v := ?_) (a' := ?_) (bl 14 639) rfl rfl (take_ofW HT_.out HW_.out (by kernel_rfl)) (fun _ _ _ h => h) (Or.inl ⟨by rfl, ?_⟩) hHeld ?_ ?_
  rotate_left
  · rintro w' ⟨s0, s1, s2, s3, s4, s5, s6, s7, s8, s9, s10, s11, s12⟩
    go_simp
    with_reducible rfl
  rotate_left
  · simp only [Act.put, sa_, sz_, ss_, i64_w, i32_w]; rfl
  refine pure_ (i := 7) (N := some 40) (v := ?_) (a' := ?_) (bl 14 767) rfl rfl (any_of HT_.out (by kernel_rfl)) (fun _ _ _ h => h) (Or.inl ⟨by rfl, ?_⟩) ?_ ?_
  rotate_left
  · intro w'; go_simp; with_reducible rfl
  rotate_left
  · simp only [Act.put, sa_, sz_, ss_, i64_w, i32_w]; rfl
  refine take_ (i := 8) (N := some 41) (v := ?_) (a' := ?_) (bl 14 1023) rfl rfl (take_ofW HT_.out HW_.out (by kernel_rfl)) (fun _ _ _ h => h) (Or.inl ⟨by rfl, ?_⟩) hHeld ?_ ?_
  rotate_left
  · rintro w' ⟨s0, s1, s2, s3, s4, s5, s6, s7, s8, s9, s10, s11, s12⟩
    go_simp
    with_reducible rfl
  rotate_left
  · simp only [Act.put, sa_, sz_, ss_, i64_w, i32_w]; rfl
  refine one_ (i := 10) (N := some 43) (bl 14 2047) rfl rfl (one_of HT_.out (by kernel_rfl)) (by decide) (fun K hK => ?_)
  refine goes_ Try.func31 (by kernel_rfl) rfl #[.agg #[.int .i64 ((rd_T24 l0_3 (rd l1 x9_2)).f0), .int .i64 ((rd_T24 l0_3 (rd l1 x9_2)).f1), .string ((rd_T24 l0_3 (rd l1 x9_2)).f2), .slice A190_3 ((rd_T24 l0_3 (rd l1 x9_2)).f3).length c190_3, .int .i64 ((rd_T24 l0_3 (rd l1 x9_2)).f4), .int .i64 ((rd_T24 l0_3 (rd l1 x9_2)).f5)], .slice Ao27 t182.length co27] (by rfl) rfl rfl (by (try simp only [List.map_toArray, List.map_cons, List.map_nil]); (rfl)) ?_
  with_reducible refine (notaryref32_Renumbered.calls k2 ((rd_T24 l0_3 (rd l1 x9_2)).f0) ((rd_T24 l0_3 (rd l1 x9_2)).f1) ((rd_T24 l0_3 (rd l1 x9_2)).f2) _ _ ((rd_T24 l0_3 (rd l1 x9_2)).f3) ((rd_T24 l0_3 (rd l1 x9_2)).f4) ((rd_T24 l0_3 (rd l1 x9_2)).f5) _ _ t182 t191 t192 t193 t194 t197 t198 _ ?side1 ?side2 ?side3 ?side4 A24.out).mono ?_
  (case side1 => exact Kd.C_below HR190_3.out HB.out)
  (case side2 => exact HC190_3.out)
  (case side3 => repeat ((exact (Kd.R_reads' HO_6.out).2.2)))
  (case side4 => exact (Kd.R_reads' HO_6.out).2.1)
  rintro e w28 ⟨v195, rfl, ho0, hb⟩
  refine ⟨_, rfl, ?_⟩
  have n0_ := Aside0.mk (Kd.R_below (by exact HO_6.out) hb)
  have n1_ := Aside0.mk (Kd.R_elder' (by exact HO_8.out) (Kd.R_base ho0) hb)
  have n2_ := Aside0.mk (Kd.R_lower (Kd.R_newB (Kd.R_newB (Kd.R_new' ho0 (Kd.R_lt (by exact HO_8.out))) (g := gb180) (o := .cells #[.int .i64 a0_0, .int .i64 a0_1, .string a0_2, .slice (some ad190) l0_3.length c0_3, .int .i64 a0_4, .int .i64 a0_5] 24 (0, 0)) (by exact BK180.out)) (g := gb181) (o := .cells #[.int .i64 0, .int .i64 0, .string (⟨#[]⟩ : ByteArray), .slice none 0 0, .int .i64 0, .int .i64 0] 24 (0, 0)) (by exact BK181.out)) (below_size HB.out))
  have n3_ := Aside0.mk (blk_below (g := gb180) (o := .cells #[.int .i64 a0_0, .int .i64 a0_1, .string a0_2, .slice (some ad190) l0_3.length c0_3, .int .i64 a0_4, .int .i64 a0_5] 24 (0, 0)) (by exact BK180.out) hb)
  have n4_ := Aside0.mk (blk_below (g := gb181) (o := .cells #[.int .i64 0, .int .i64 0, .string (⟨#[]⟩ : ByteArray), .slice none 0 0, .int .i64 0, .int .i64 0] 24 (0, 0)) (by exact BK181.out) hb)
  have n5_ := Aside0.mk (below_step HB.out hb)
  clear HO_6
  clear HO_8
  clear BK180
  clear BK181
  clear HB
  have HO_6 := n0_
  have HO_8 := n1_
  have HO196 := n2_
  have BK180 := n3_
  have BK181 := n4_
  have HB := n5_
  clear n0_ n1_ n2_ n3_ n4_ n5_
  (try clear hb)
  (skip)
  (skip)
  (skip)
  (try clear ho0)
  obtain ⟨Ao30, co30, eo30⟩ := Kd.R_slice HO196.out
  (subst eo30)
  refine hK.out _ _ ⟨(blk_cell BK180.out 0).trans rfl, (blk_cell BK180.out 1).trans rfl, (blk_cell BK180.out 2).trans rfl, (blk_cell BK180.out 3).trans rfl, (blk_cell BK180.out 4).trans rfl, (blk_cell BK180.out 5).trans rfl, (pw_cell_below HB.out hw189_0), (pw_cell_below HB.out hw190_0), (pw_cell_below HB.out hw190_1), (pw_cell_below HB.out hw190_2), (pw_cell_below HB.out hw190_3), (pw_cell_below HB.out hw190_4), (pw_cell_below HB.out hw190_5)⟩ (fun hHeld => ?_)
  clear hK K
  refine norm_ (a' := ?_) ?_ ?_
  rotate_left
  · show Act.put _ (some 43) _ = _
    simp only [Act.put, sa_, sz_, ss_, i64_w, i32_w]
    rfl
  refine one_ (i := 11) (N := some 44) (bl 14 4095) rfl rfl (one_of HT_.out (by kernel_rfl)) (by decide) (fun K hK => ?_)
  refine value_ (w1 := ?_) (v := ?_) (by rfl) rfl ?_ ?_
  rotate_left 2
  · go_simp
    constructor
    · rfl
    · rfl
  refine hK.out _ _ ⟨(blk_cell (blk_alloc BK180.out _) 0).trans rfl, (blk_cell (blk_alloc BK180.out _) 1).trans rfl, (blk_cell (blk_alloc BK180.out _) 2).trans rfl, (blk_cell (blk_alloc BK180.out _) 3).trans rfl, (blk_cell (blk_alloc BK180.out _) 4).trans rfl, (blk_cell (blk_alloc BK180.out _) 5).trans rfl, (World.cell?_alloc_lt _ _ _ (World.block_lt_of_cell? _ _ ((pw_cell_below HB.out hw189_0)))).trans ((pw_cell_below HB.out hw189_0)), (World.cell?_alloc_lt _ _ _ (World.block_lt_of_cell? _ _ ((pw_cell_below HB.out hw190_0)))).trans ((pw_cell_below HB.out hw190_0)), (World.cell?_alloc_lt _ _ _ (World.block_lt_of_cell? _ _ ((pw_cell_below HB.out hw190_1)))).trans ((pw_cell_below HB.out hw190_1)), (World.cell?_alloc_lt _ _ _ (World.block_lt_of_cell? _ _ ((pw_cell_below HB.out hw190_2)))).trans ((pw_cell_below HB.out hw190_2)), (World.cell?_alloc_lt _ _ _ (World.block_lt_of_cell? _ _ ((pw_cell_below HB.out hw190_3)))).trans ((pw_cell_below HB.out hw190_3)), (World.cell?_alloc_lt _ _ _ (World.block_lt_of_cell? _ _ ((pw_cell_below HB.out hw190_4)))).trans ((pw_cell_below HB.out hw190_4)), (World.cell?_alloc_lt _ _ _ (World.block_lt_of_cell? _ _ ((pw_cell_below HB.out hw190_5)))).trans ((pw_cell_below HB.out hw190_5))⟩ (fun hHeld => ?_)
  clear hK K
  refine norm_ (a' := ?_) ?_ ?_
  rotate_left
  · show Act.put _ (some 44) _ = _
    simp only [Act.put, sa_, sz_, ss_, i64_w, i32_w]
    rfl
  refine one_ (i := 12) (N := some 45) (bl 14 8191) rfl rfl (one_of HT_.out (by kernel_rfl)) (by decide) (fun K hK => ?_)
  refine Kd.R_append_step k24 (w0 := w) w.heap.size (by rfl) (.tmp 33) (.tmp 44) 22 24 (.agg #[(.int .i64 0), (.int .i64 0), (.string ⟨#[]⟩), (.slice none 0 0), (.int .i64 0), (.int .i64 0)]) 72 rfl Try.underlying22 info24 rfl (by decide) (by omega) u8 x8_2 (⟨t191, t192, t193, t194, t197, t198⟩ : S24) [.int .i64 t191, .int .i64 t192, .string t193, .slice Ao30 t194.length co30, .int .i64 t197, .int .i64 t198] (fun k_ => k_ ≠ gb180 ∧ k_ ≠ gb181) (fun k_ => (fun k_ => k_ ≠ gb180 ∧ k_ ≠ gb181) k_ ∧ some k_ ≠ (u8 : Value).ownBlock) rfl rfl ?aP (fun _ hk => hk) ?aF ?aO ?aB ?aS ?aL ?_
  (case aP => exact k24_mkM _ _ _ (⟨t191, t192, t193, t194, t197, t198⟩ : S24) (Kd.R_mono (HO196.out) (fun k_ hk => ⟨⟨hk.1.2, hk.2⟩, hk.1.1.2⟩)))
  (case aB => exact HB.out)
  (case aF => exact (fun k_ hk => ⟨Kd.freshB (g := gb180) (o := .cells #[.int .i64 a0_0, .int .i64 a0_1, .string a0_2, .slice (some ad190) l0_3.length c0_3, .int .i64 a0_4, .int .i64 a0_5] 24 (0, 0)) (by exact BK180.out) k_ hk, Kd.freshB (g := gb181) (o := .cells #[.int .i64 0, .int .i64 0, .string (⟨#[]⟩ : ByteArray), .slice none 0 0, .int .i64 0, .int .i64 0] 24 (0, 0)) (by exact BK181.out) k_ hk⟩))
  (case aO => exact (by exact Kd.R_mono HO_8.out (fun _ hk => ⟨hk.1.1, hk.1.2⟩)))
  (case aS => exact (below_size HB.out))
  (case aL => have := LMc25.out; omega)
  intro v200 w29 ho hb hg hat
  rw [← Ny199.out] at ho
  have n0_ := Aside0.mk (Kd.R_over' (by exact HO_6.out) (Kd.R_typed (by exact HO_8.out)) (by decide) hg)
  have n1_ := Aside0.mk (blk_grown (g := gb180) (o := .cells #[.int .i64 a0_0, .int .i64 a0_1, .string a0_2, .slice (some ad190) l0_3.length c0_3, .int .i64 a0_4, .int .i64 a0_5] 24 (0, 0)) (by exact BK180.out) hg (Kd.R_away HO_8.out (fun _ hk => hk.1.1)))
  have n2_ := Aside0.mk (blk_grown (g := gb181) (o := .cells #[.int .i64 0, .int .i64 0, .string (⟨#[]⟩ : ByteArray), .slice none 0 0, .int .i64 0, .int .i64 0] 24 (0, 0)) (by exact BK181.out) hg (Kd.R_away HO_8.out (fun _ hk => hk.1.2)))
  have n3_ := Aside0.mk (hb)
  have n4_ := Aside0.mk (ho)
  clear HO_6
  clear BK180
  clear BK181
  clear HB
  clear HO_8
  clear HO196
  have HO_6 := n0_
  have BK180 := n1_
  have BK181 := n2_
  have HB := n3_
  have HO201 := n4_
  clear n0_ n1_ n2_ n3_ n4_
  clear ho hb hg hat
  refine hK.out _ _ ⟨(blk_cell BK180.out 0).trans rfl, (blk_cell BK180.out 1).trans rfl, (blk_cell BK180.out 2).trans rfl, (blk_cell BK180.out 3).trans rfl, (blk_cell BK180.out 4).trans rfl, (blk_cell BK180.out 5).trans rfl, (pw_cell_below HB.out hw189_0), (pw_cell_below HB.out hw190_0), (pw_cell_below HB.out hw190_1), (pw_cell_below HB.out hw190_2), (pw_cell_below HB.out hw190_3), (pw_cell_below HB.out hw190_4), (pw_cell_below HB.out hw190_5)⟩ (fun hHeld => ?_)
  clear hK K
  refine norm_ (a' := ?_) ?_ ?_
  rotate_left
  · show Act.put _ (some 45) _ = _
    simp only [Act.put, sa_, sz_, ss_, i64_w, i32_w]
    rfl
  refine pure_ (i := 13) (N := some 8) (v := ?_) (a' := ?_) (bl 14 16383) rfl rfl (any_of HT_.out (by kernel_rfl)) (fun _ _ _ h => h) (Or.inl ⟨by rfl, ?_⟩) ?_ ?_
  rotate_left
  · intro w'; go_simp; with_reducible rfl
  rotate_left
  · simp only [Act.put, sa_, sz_, ss_, i64_w, i32_w]; rfl
  refine done_ (done_of HT_.out (by kernel_rfl)) ?_
  try go_wp2
  go_roundg k2
  case measure => have := HJ3.out; have := HK2.out; omega
  case rel => exact ⟨(y199), (wrap64 (x9_2 + 1)), (by (rfl)), H', ⟨by have := HJ3.out; have := HK2.out; omega⟩, ⟨by exact HO_6.out⟩, ⟨by exact HO201.out⟩, ⟨by exact BK180.out⟩, ⟨by exact BK181.out⟩, ⟨HB.out⟩⟩/-! ### notaryref32_Less: function 30 -/
def notaryref32_Less.l0 : Nat → Int → Int → List Int → Int → Option (List Int)
  | 0, _, _, _, _ => none
  | k + 1, x0, x1, x5, x6 => if x6 < x1 then (if x6 < x0 then (if x5.length < 17592186044416 then (notaryref32_Less.l0 k x0 x1 (x5 ++ [x6]) (wrap64 (x6 + 1))) else (none)) else (if x6 = x0 then (if x5.length < 17592186044416 then (notaryref32_Less.l0 k x0 x1 (x5 ++ [(-1)]) (wrap64 (x6 + 1))) else (none)) else (if x5.length < 17592186044416 then (notaryref32_Less.l0 k x0 x1 (x5 ++ [wrap64 (x6 - 1)]) (wrap64 (x6 + 1))) else (none)))) else (some x5)
def notaryref32_Less.f (k : Nat) (a0 : Int) (a1 : Int) : Option (List Int) := notaryref32_Less.l0 k a0 a1 ([] : List Int) 0
theorem notaryref32_Less.mono_l : ∀ k, (∀ y0 y1 y2 y3, LeO (notaryref32_Less.l0 k y0 y1 y2 y3) (notaryref32_Less.l0 (k + 1) y0 y1 y2 y3))
  | 0 => fun _ _ _ _ r h => by simp [notaryref32_Less.l0] at h
  | k + 1 => by
    have ih0 := notaryref32_Less.mono_l k
    · intro y0 y1 y2 y3
      unfold notaryref32_Less.l0
      repeat' first | (with_reducible exact ih0 _ _ _ _) | (with_reducible exact LeO.refl _) | (with_reducible refine LeO.ite ?_ ?_)
theorem notaryref32_Less.mono : ∀ a0 a1 k, LeO (notaryref32_Less.f k a0 a1) (notaryref32_Less.f (k + 1) a0 a1) := by
  intro a0 a1 k
  have ih0 := notaryref32_Less.mono_l k
  unfold notaryref32_Less.f
  repeat' first | (with_reducible exact ih0 _ _ _ _)
set_option maxHeartbeats 8000000 in
set_option maxRecDepth 100000 in
theorem notaryref32_Less.calls (k : Nat) (a0 : Int) (a1 : Int) (r : List Int) (w : World) (h : notaryref32_Less.f k a0 a1 = some r) :
    Calls Try.prog 30 #[.int .i64 a0, .int .i64 a1] w fun e w' => ∃ v0_ : Value, e = .returned (v0_) ∧ Kd.R (Kd.int .i64) 3 w' w.heap.size (fun _ => True) v0_ r ∧ Below w.heap.size w w' := by
  have HB := Aside0.mk (Below.refl w.heap.size w)
  have H : (notaryref32_Less.l0 k a0 a1 ([] : List Int) 0) = some r := h
  clear h
  obtain ⟨y202, hy202⟩ : ∃ y_ : List Int, y_ = ([] : List Int) := ⟨_, rfl⟩
  replace H : (notaryref32_Less.l0 k a0 a1 y202 0) = some r := by (rw [hy202]; with_reducible exact H)
  have Ny202 := Aside0.mk hy202
  clear hy202
  have H' := Aside0.mk H
  clear H
  go_enter Try.func30, Try.ntmps30
  go_wp2_with ((((with_reducible refine gate_dst (N := 7) rfl ?_); refine Kd.R_lit (Kd.int .i64) _ 3 ?hg (N := 7) ?hd (xs := ([] : List Int)) (inner := []) (ok := fun _ => True) (okp := fun _ => True) ?hr ?hp (fun _ hk => hk) trivial (Below.refl _ _) (Nat.le_refl _) (by simp) ?_; (case hd => rfl); (case hg => rfl); (case hr => (go_simp; done)); (case hp => exact (Reps.none _ _)); intro v203 w3 ho4 hb hg_ hnew_; clear hg_ hnew_; (rw [← Ny202.out] at ho4); have n0_ := Aside0.mk (Kd.R_lower ho4 (below_size HB.out)); have n1_ := Aside0.mk (below_step HB.out hb); clear HB; have HO204 := n0_; have HB := n1_; clear n0_ n1_; clear hb ho4)))
  go_loopg [5, 6] k (fun kq v5 v6 w' => ∃ (x5_1 : List Int) (x6_1 : Int), v6 = .int .i64 x6_1 ∧ Aside0 (notaryref32_Less.l0 kq a0 a1 x5_1 x6_1 = some r) ∧ Aside0 (kq ≤ k) ∧ Aside0 (Kd.R (Kd.int .i64) 3 w' w.heap.size (fun _ => True) v5 x5_1) ∧ Aside0 (Below w.heap.size w w'))
  case atStart => exact ⟨(y202), (0), (by (rfl)), H', ⟨Nat.le_refl _⟩, ⟨by exact HO204.out⟩, ⟨HB.out⟩⟩
  clear H'
  obtain ⟨x5_1, x6_1, rfl, HA, HK1, HO_5, HB⟩ := hrel
  rcases gk with _ | k1
  · exact absurd HA.out (by simp [notaryref32_Less.l0])
  have H := HA.out
  clear HA
  simp only [notaryref32_Less.l0] at H
  by_cases c5 : x6_1 < a1
  rotate_left
  · rw [if_neg c5] at H
    have c5b0 : decide (x6_1 < a1) = false := decide_eq_false c5
    clear c5
    obtain rfl := Option.some.inj H
    go_wp2
    go_ret
    exact ⟨_, by (rfl), by exact HO_5.out, HB.out⟩

  rw [if_pos c5] at H
  have c5b0 : decide (x6_1 < a1) = true := decide_eq_true c5
  clear c5
  by_cases c6 : x6_1 < a0
  · rw [if_pos c6] at H
    have c6b0 : decide (x6_1 < a0) = true := decide_eq_true c6
    clear c6
    by_cases c7 : x5_1.length < 17592186044416
    rotate_left
    · rw [if_neg c7] at H
      exact absurd H (by simp)
    rw [if_pos c7] at H
    have LMc7 := Aside0.mk c7
    clear c7
    obtain ⟨y205, hy205⟩ : ∃ y_ : List Int, y_ = (x5_1 ++ [x6_1]) := ⟨_, rfl⟩
    replace H : (notaryref32_Less.l0 k1 a0 a1 y205 (wrap64 (x6_1 + 1))) = some r := by (rw [hy205]; with_reducible exact H)
    have Ny205 := Aside0.mk hy205
    clear hy205
    have H' := Aside0.mk H
    clear H
    go_wp2_with ((((with_reducible refine gate_builtin (b := .append) (xs := #[.tmp 16, .tmp 18]) rfl ?_); at_builtin; refine Kd.R_append (Kd.int .i64) (w0 := w) w.heap.size rfl (.tmp 16) (.tmp 18) 25 3 (.int .i64 0) 8 rfl Try.underlying25 info3 rfl (by decide) (by omega) u5 x5_1 x6_1 [.int .i64 x6_1] (fun _ => True) (fun _ => False) rfl rfl ?aP (fun _ hk => hk.elim) ?aF ?aO ?aB ?aS ?aL ?_; (case aP => exact rfl); (case aB => exact HB.out); (case aF => exact (fun _ _ => trivial)); (case aO => exact (by exact HO_5.out)); (case aS => exact (below_size HB.out)); (case aL => have := LMc7.out; omega); intro v206 w8 ho hb hg hat; rw [← Ny205.out] at ho; have n0_ := Aside0.mk (hb); have n1_ := Aside0.mk (ho); clear HB; clear HO_5; have HB := n0_; have HO207 := n1_; clear n0_ n1_; clear ho hb hg hat)))
    go_roundg k1
    case measure => have := HK1.out; omega
    case rel => exact ⟨(y205), (wrap64 (x6_1 + 1)), (by (rfl)), H', ⟨by have := HK1.out; omega⟩, ⟨by exact HO207.out⟩, ⟨HB.out⟩⟩
  rw [if_neg c6] at H
  have c6b0 : decide (x6_1 < a0) = false := decide_eq_false c6
  clear c6
  by_cases c9 : x6_1 = a0
  · rw [if_pos c9] at H
    have c9b0 : (x6_1 == a0) = true := beq_iff_eq.mpr c9
    have c9b1 : (x6_1 != a0) = false := bne_eq_false_iff_eq.mpr c9
    clear c9
    by_cases c10 : x5_1.length < 17592186044416
    rotate_left
    · rw [if_neg c10] at H
      exact absurd H (by simp)
    rw [if_pos c10] at H
    have LMc10 := Aside0.mk c10
    clear c10
    obtain ⟨y208, hy208⟩ : ∃ y_ : List Int, y_ = (x5_1 ++ [(-1)]) := ⟨_, rfl⟩
    replace H : (notaryref32_Less.l0 k1 a0 a1 y208 (wrap64 (x6_1 + 1))) = some r := by (rw [hy208]; with_reducible exact H)
    have Ny208 := Aside0.mk hy208
    clear hy208
    have H' := Aside0.mk H
    clear H
    go_wp2_with ((((with_reducible refine gate_builtin (b := .append) (xs := #[.tmp 23, .tmp 24]) rfl ?_); at_builtin; refine Kd.R_append (Kd.int .i64) (w0 := w) w.heap.size rfl (.tmp 23) (.tmp 24) 25 3 (.int .i64 0) 8 rfl Try.underlying25 info3 rfl (by decide) (by omega) u5 x5_1 (-1) [.int .i64 (-1)] (fun _ => True) (fun _ => False) rfl rfl ?aP (fun _ hk => hk.elim) ?aF ?aO ?aB ?aS ?aL ?_; (case aP => exact rfl); (case aB => exact HB.out); (case aF => exact (fun _ _ => trivial)); (case aO => exact (by exact HO_5.out)); (case aS => exact (below_size HB.out)); (case aL => have := LMc10.out; omega); intro v209 w11 ho hb hg hat; rw [← Ny208.out] at ho; have n0_ := Aside0.mk (hb); have n1_ := Aside0.mk (ho); clear HB; clear HO_5; have HB := n0_; have HO210 := n1_; clear n0_ n1_; clear ho hb hg hat)))
    go_roundg k1
    case measure => have := HK1.out; omega
    case rel => exact ⟨(y208), (wrap64 (x6_1 + 1)), (by (rfl)), H', ⟨by have := HK1.out; omega⟩, ⟨by exact HO210.out⟩, ⟨HB.out⟩⟩
  rw [if_neg c9] at H
  have c9b0 : (x6_1 == a0) = false := beq_eq_false_iff_ne.mpr c9
  have c9b1 : (x6_1 != a0) = true := bne_iff_ne.mpr c9
  by_cases c12 : x5_1.length < 17592186044416
  rotate_left
  · rw [if_neg c12] at H
    exact absurd H (by simp)
  rw [if_pos c12] at H
  have LMc12 := Aside0.mk c12
  clear c12
  obtain ⟨y211, hy211⟩ : ∃ y_ : List Int, y_ = (x5_1 ++ [wrap64 (x6_1 - 1)]) := ⟨_, rfl⟩
  replace H : (notaryref32_Less.l0 k1 a0 a1 y211 (wrap64 (x6_1 + 1))) = some r := by (rw [hy211]; with_reducible exact H)
  have Ny211 := Aside0.mk hy211
  clear hy211
  have H' := Aside0.mk H
  clear H
  go_wp2_with ((((with_reducible refine gate_builtin (b := .append) (xs := #[.tmp 26, .tmp 29]) rfl ?_); at_builtin; refine Kd.R_append (Kd.int .i64) (w0 := w) w.heap.size rfl (.tmp 26) (.tmp 29) 25 3 (.int .i64 0) 8 rfl Try.underlying25 info3 rfl (by decide) (by omega) u5 x5_1 (wrap64 (x6_1 - 1)) [.int .i64 (wrap64 (x6_1 - 1))] (fun _ => True) (fun _ => False) rfl rfl ?aP (fun _ hk => hk.elim) ?aF ?aO ?aB ?aS ?aL ?_; (case aP => exact rfl); (case aB => exact HB.out); (case aF => exact (fun _ _ => trivial)); (case aO => exact (by exact HO_5.out)); (case aS => exact (below_size HB.out)); (case aL => have := LMc12.out; omega); intro v212 w13 ho hb hg hat; rw [← Ny211.out] at ho; have n0_ := Aside0.mk (hb); have n1_ := Aside0.mk (ho); clear HB; clear HO_5; have HB := n0_; have HO213 := n1_; clear n0_ n1_; clear ho hb hg hat)))
  go_roundg k1
  case measure => have := HK1.out; omega
  case rel => exact ⟨(y211), (wrap64 (x6_1 + 1)), (by (rfl)), H', ⟨by have := HK1.out; omega⟩, ⟨by exact HO213.out⟩, ⟨HB.out⟩⟩
end Go.Proofs.Ytgjmidpoebnieaa.PDm
