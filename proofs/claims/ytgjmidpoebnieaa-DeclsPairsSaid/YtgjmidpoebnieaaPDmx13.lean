-- SLIM: a printed text of which the unused ways are cut off
-- PRINTED by print.py (a twelfth state) out of the translation. Not trusted: Lean checks it.
import Derived.Test.YtgjmidpoebnieaaPDmx0
import Derived.Test.YtgjmidpoebnieaaPDmx2
import Derived.Test.YtgjmidpoebnieaaPDmx4
import Derived.Test.YtgjmidpoebnieaaPDmx10
import Derived.Test.YtgjmidpoebnieaaPDmx11
import Derived.Test.YtgjmidpoebnieaaPDmx12
namespace Go.Proofs.Ytgjmidpoebnieaa.PDm
open Go.RowKit Go.Proofs.YtgjmidpoebnieaaW.PrintWords Go.Proofs.YtgjmidpoebnieaaW.PrintLast Go.Proofs.YtgjmidpoebnieaaW.PrintMore
attribute [local go_sem] max2_int min2_int max_two min_two max_three min_three max_four min_four   -- for this text's walks alone
set_option linter.unusedVariables false
set_option linter.unusedSimpArgs false

/-! ### notarylaw32_DeclsPairs: function 4 -/
mutual
def notarylaw32_DeclsPairs.j0 : Nat → Int → List Int → Bool → Int → Int → ByteArray → List (S24) → Int → Int → Option (Bool)
  | 0, _, _, _, _, _, _, _, _, _ => none
  | k + 1, x1, x2, x15, x312000, x312001, x312002, x312003, x312004, x312005 => if x15 = true then ((notarylaw32_awake.f k).bind fun t313 => (some t313)) else ((notaryref32_Side.f k x1 x2 x312000 x312001 x312002 x312003 x312004 x312005).bind fun bt314 => (if bt314.2.2.2.2.2.2 = true then (notarylaw32_DeclsPairs.j1 k x1 x2 false x312000 x312001 x312002 x312003 x312004 x312005) else (if x1 = 50 then (notarylaw32_DeclsPairs.j1 k x1 x2 true x312000 x312001 x312002 x312003 x312004 x312005) else (notarylaw32_DeclsPairs.j1 k x1 x2 (x1 == 51) x312000 x312001 x312002 x312003 x312004 x312005))))
def notarylaw32_DeclsPairs.j1 : Nat → Int → List Int → Bool → Int → Int → ByteArray → List (S24) → Int → Int → Option (Bool)
  | 0, _, _, _, _, _, _, _, _, _ => none
  | k + 1, x1, x2, x33, x312000, x312001, x312002, x312003, x312004, x312005 => if x33 = true then ((notarylaw32_awake.f k).bind fun t324 => (some t324)) else ((decls_Pairs.f k x1 x2 (x312003.length : Int)).bind fun t325 => ((notaryref32_Pairs.f k x1 x2 (x312003.length : Int)).bind fun t328 => ((notaryref32_SamePairs.f k t325 t328).bind fun t331 => (if t331 = true then ((notarylaw32_awake.f k).bind fun t332 => (some t332)) else (some false)))))
end
def notarylaw32_DeclsPairs.f (k : Nat) (a0_0 : Int) (a0_1 : Int) (a0_2 : ByteArray) (l0_3 : List (S24)) (a0_4 : Int) (a0_5 : Int) (a1 : Int) (l2 : List Int) : Option (Bool) := (notaryref06_Large.f k a0_0 a0_1 a0_2 l0_3 a0_4 a0_5).bind fun t312 => (if t312 = true then (notarylaw32_DeclsPairs.j0 k a1 l2 true a0_0 a0_1 a0_2 l0_3 a0_4 a0_5) else (notarylaw32_DeclsPairs.j0 k a1 l2 (decide ((l2.length : Int) > 100)) a0_0 a0_1 a0_2 l0_3 a0_4 a0_5))
theorem notarylaw32_DeclsPairs.mono_l : ∀ k, (∀ y0 y1 y2 y3 y4 y5 y6 y7 y8, LeO (notarylaw32_DeclsPairs.j0 k y0 y1 y2 y3 y4 y5 y6 y7 y8) (notarylaw32_DeclsPairs.j0 (k + 1) y0 y1 y2 y3 y4 y5 y6 y7 y8)) ∧ (∀ y0 y1 y2 y3 y4 y5 y6 y7 y8, LeO (notarylaw32_DeclsPairs.j1 k y0 y1 y2 y3 y4 y5 y6 y7 y8) (notarylaw32_DeclsPairs.j1 (k + 1) y0 y1 y2 y3 y4 y5 y6 y7 y8))
  | 0 => ⟨fun _ _ _ _ _ _ _ _ _ r h => by simp [notarylaw32_DeclsPairs.j0] at h, fun _ _ _ _ _ _ _ _ _ r h => by simp [notarylaw32_DeclsPairs.j1] at h⟩
  | k + 1 => by
    obtain ⟨ih0, ih1⟩ := notarylaw32_DeclsPairs.mono_l k
    refine ⟨?_, ?_⟩
    · intro y0 y1 y2 y3 y4 y5 y6 y7 y8
      unfold notarylaw32_DeclsPairs.j0
      repeat' first | (with_reducible exact ih1 _ _ _ _ _ _ _ _ _) | (with_reducible exact notarylaw32_awake.mono _) | (with_reducible exact notaryref32_Side.mono _ _ _ _ _ _ _ _ _) | (with_reducible exact LeO.refl _) | (with_reducible refine LeO.ite ?_ ?_) | (with_reducible refine LeO.bind ?_ (fun _ => ?_))
    · intro y0 y1 y2 y3 y4 y5 y6 y7 y8
      unfold notarylaw32_DeclsPairs.j1
      repeat' first | (with_reducible exact decls_Pairs.mono _ _ _ _) | (with_reducible exact notarylaw32_awake.mono _) | (with_reducible exact notaryref32_Pairs.mono _ _ _ _) | (with_reducible exact notaryref32_SamePairs.mono _ _ _) | (with_reducible exact LeO.refl _) | (with_reducible refine LeO.ite ?_ ?_) | (with_reducible refine LeO.bind ?_ (fun _ => ?_))
theorem notarylaw32_DeclsPairs.mono : ∀ a0 a1 a2 a3 a4 a5 a6 a7 k, LeO (notarylaw32_DeclsPairs.f k a0 a1 a2 a3 a4 a5 a6 a7) (notarylaw32_DeclsPairs.f (k + 1) a0 a1 a2 a3 a4 a5 a6 a7) := by
  intro a0 a1 a2 a3 a4 a5 a6 a7 k
  obtain ⟨ih0, ih1⟩ := notarylaw32_DeclsPairs.mono_l k
  unfold notarylaw32_DeclsPairs.f
  repeat' first | (with_reducible exact ih0 _ _ _ _ _ _ _ _ _) | (with_reducible exact notaryref06_Large.mono _ _ _ _ _ _ _) | (with_reducible refine LeO.ite ?_ ?_) | (with_reducible refine LeO.bind ?_ (fun _ => ?_))
def notarylaw32_DeclsPairs.T6 : Bool × List (List Nat × List Nat) := (true, [([], []), ([], []), ([], []), ([2], [2]), ([3], [3]), ([0, 1, 4], [0, 1, 4]), ([], []), ([], []), ([], []), ([8], [8]), ([9], [9]), ([6, 7, 10, 5], [6, 7, 10]), ([5, 11, 11], [5, 11]), ([12, 12], [12]), ([13, 13], [13]), ([13, 14], [13, 14]), ([15, 14, 0, 1, 2, 3, 4, 5, 6, 7, 8, 9, 10, 11, 12, 13, 14, 15], [15])])
def notarylaw32_DeclsPairs.B6 : List Nat := [0, 0, 0, 4, 12, 31, 0, 0, 0, 256, 768, 2047, 4095, 8191, 16383, 32767, 65535]
theorem notarylaw32_DeclsPairs.tab6 : rtab .any (opsOf Try.f4 6) = notarylaw32_DeclsPairs.T6 := by kernel_rfl
theorem notarylaw32_DeclsPairs.bits6 : waitsOk notarylaw32_DeclsPairs.T6.2 notarylaw32_DeclsPairs.B6 = true := by kernel_rfl
set_option maxHeartbeats 8000000 in
set_option maxRecDepth 100000 in
theorem notarylaw32_DeclsPairs.calls (k : Nat) (a0_0 : Int) (a0_1 : Int) (a0_2 : ByteArray) (A0_3 : Option Addr) (c0_3 : Nat) (l0_3 : List (S24)) (a0_4 : Int) (a0_5 : Int) (a1 : Int) (A2 : Option Addr) (c2 : Nat) (l2 : List Int) (r : Bool) (w : World) (hr0_3 : Kd.C k24 w A0_3 l0_3.length l0_3) (hc0_3 : l0_3.length ≤ c0_3) (hr2 : Kd.C (Kd.int .i64) w A2 l2.length l2) (hc2 : l2.length ≤ c2) (h : notarylaw32_DeclsPairs.f k a0_0 a0_1 a0_2 l0_3 a0_4 a0_5 a1 l2 = some r) :
    Calls Try.prog 4 #[.agg #[.int .i64 a0_0, .int .i64 a0_1, .string a0_2, .slice A0_3 l0_3.length c0_3, .int .i64 a0_4, .int .i64 a0_5], .int .i64 a1, .slice A2 l2.length c2] w fun e w' => e = .returned (.bool r) ∧ Below w.heap.size w w' := by
  have hu24 := Try.underlying24
  have HR0_3 := Aside0.mk hr0_3
  have HC0_3 := Aside0.mk hc0_3
  clear hr0_3 hc0_3
  have HR2 := Aside0.mk hr2
  have HC2 := Aside0.mk hc2
  clear hr2 hc2
  have HB := Aside0.mk (Below.refl w.heap.size w)
  have H : ((notaryref06_Large.f k a0_0 a0_1 a0_2 l0_3 a0_4 a0_5).bind fun t312 => (if t312 = true then (notarylaw32_DeclsPairs.j0 k a1 l2 true a0_0 a0_1 a0_2 l0_3 a0_4 a0_5) else (notarylaw32_DeclsPairs.j0 k a1 l2 (decide ((l2.length : Int) > 100)) a0_0 a0_1 a0_2 l0_3 a0_4 a0_5))) = some r := h
  clear h
  have HC4 := Aside0.mk H
  clear H
  go_enter Try.func4, Try.ntmps4
  go_upto_region 1 with ((((with_reducible refine gate_dst (N := 3) rfl ?_); (try (refine gate_guard (by rfl) ?_; dsimp only)); refine box_event ?hg (N := 3) ?hd (cs := #[.int .i64 a0_0, .int .i64 a0_1, .string a0_2, .slice A0_3 l0_3.length c0_3, .int .i64 a0_4, .int .i64 a0_5]) (t := 24) ?hr ?_; (case hd => rfl); (case hg => rfl); (case hr => (go_simp; done)); intro gb311 hg w5 hbox hb; have n0_ := Aside0.mk (below_step HB.out hb); have n1_ := Aside0.mk (hbox); have n2_ := Aside0.mk ((by rw [hg]; exact (below_size HB.out) : w.heap.size ≤ gb311)); have n3_ := Aside0.mk ((by rw [hg]; exact (below_size HB.out) : w.heap.size ≤ gb311)); clear HB; have HB := n0_; have BK311 := n1_; have GW311 := n2_; have GE311 := n3_; clear n0_ n1_ n2_ n3_; clear hb hbox hg)))
  (skip)
  go_cut [15] (fun v15 wc => ∃ (kq : Nat) (x15_3 : Bool), v15 = .bool x15_3 ∧ Aside0 (notarylaw32_DeclsPairs.j0 kq a1 l2 x15_3 a0_0 a0_1 a0_2 l0_3 a0_4 a0_5 = some r) ∧ Aside0 (kq ≤ k) ∧ Aside0 (wc.heap[gb311]? = some (.cells #[.int .i64 a0_0, .int .i64 a0_1, .string a0_2, (.slice A0_3 l0_3.length c0_3), .int .i64 a0_4, .int .i64 a0_5] 24 (0, 0))) ∧ Aside0 (Below w.heap.size w wc))
  case first =>
    have H := HC4.out
    clear HC4
    replace H := Option.bind_eq_some_iff.mp H
    obtain ⟨t312, A60, H⟩ := H
    replace H : (if t312 = true then (notarylaw32_DeclsPairs.j0 k a1 l2 true a0_0 a0_1 a0_2 l0_3 a0_4 a0_5) else (notarylaw32_DeclsPairs.j0 k a1 l2 (decide ((l2.length : Int) > 100)) a0_0 a0_1 a0_2 l0_3 a0_4 a0_5)) = some r := H
    have A6 := Aside0.mk A60
    clear A60
    by_cases c7 : t312 = true
    · subst c7
      have H1 : (notarylaw32_DeclsPairs.j0 k a1 l2 true a0_0 a0_1 a0_2 l0_3 a0_4 a0_5) = some r := by rw [if_pos rfl] at H; exact H
      clear H
      have H := H1
      clear H1
      have H' := Aside0.mk H
      clear H
      have hcz8_0 : w5.cell? ⟨gb311, 0, none⟩ = some (.int .i64 a0_0) := (blk_cell BK311.out 0).trans rfl
      have hcz8_1 : w5.cell? ⟨gb311, 1, none⟩ = some (.int .i64 a0_1) := (blk_cell BK311.out 1).trans rfl
      have hcz8_2 : w5.cell? ⟨gb311, 2, none⟩ = some (.string a0_2) := (blk_cell BK311.out 2).trans rfl
      have hcz8_3 : w5.cell? ⟨gb311, 3, none⟩ = some (.slice A0_3 l0_3.length c0_3) := (blk_cell BK311.out 3).trans rfl
      have hcz8_4 : w5.cell? ⟨gb311, 4, none⟩ = some (.int .i64 a0_4) := (blk_cell BK311.out 4).trans rfl
      have hcz8_5 : w5.cell? ⟨gb311, 5, none⟩ = some (.int .i64 a0_5) := (blk_cell BK311.out 5).trans rfl
      have hfz8_0 := blk_frozen BK311.out 0
      have hfz8_1 := blk_frozen BK311.out 1
      have hfz8_2 := blk_frozen BK311.out 2
      have hfz8_3 := blk_frozen BK311.out 3
      have hfz8_4 := blk_frozen BK311.out 4
      have hfz8_5 := blk_frozen BK311.out 5
      go_wp2_with ((((with_reducible refine gate_callee (f := 6) rfl ?_); refine goesL_ (some 10) rfl rfl Try.func6 (by kernel_rfl) rfl #[.agg #[.int .i64 a0_0, .int .i64 a0_1, .string a0_2, .slice A0_3 l0_3.length c0_3, .int .i64 a0_4, .int .i64 a0_5]] rfl (by (try simp only [List.map_toArray, List.map_cons, List.map_nil]); (rfl)) ?_; (with_reducible refine (notaryref06_Large.calls k a0_0 a0_1 a0_2 _ _ l0_3 a0_4 a0_5 true _ ?side1 ?side2 A6.out).mono ?_); (case side1 => exact Kd.C_below HR0_3.out HB.out); (case side2 => exact HC0_3.out); rintro e w9 ⟨rfl, hb⟩; refine ⟨_, rfl, ?_⟩; have n0_ := Aside0.mk (blk_below (g := gb311) (o := .cells #[.int .i64 a0_0, .int .i64 a0_1, .string a0_2, .slice A0_3 l0_3.length c0_3, .int .i64 a0_4, .int .i64 a0_5] 24 (0, 0)) (by exact BK311.out) hb); have n1_ := Aside0.mk (below_step HB.out hb); clear BK311; clear HB; have BK311 := n0_; have HB := n1_; clear n0_ n1_; (try clear hb); (skip))))
      go_meet
      case rel => exact ⟨_, (true), (by (rfl)), H', ⟨by (omega)⟩, ⟨by exact BK311.out⟩, ⟨HB.out⟩⟩
    replace c7 := Bool.eq_false_iff.mpr c7
    subst c7
    have H1 : (notarylaw32_DeclsPairs.j0 k a1 l2 (decide ((l2.length : Int) > 100)) a0_0 a0_1 a0_2 l0_3 a0_4 a0_5) = some r := by rw [if_neg (show ¬ (false = true) by decide)] at H; exact H
    clear H
    have H := H1
    clear H1
    have H' := Aside0.mk H
    clear H
    have hcz10_0 : w5.cell? ⟨gb311, 0, none⟩ = some (.int .i64 a0_0) := (blk_cell BK311.out 0).trans rfl
    have hcz10_1 : w5.cell? ⟨gb311, 1, none⟩ = some (.int .i64 a0_1) := (blk_cell BK311.out 1).trans rfl
    have hcz10_2 : w5.cell? ⟨gb311, 2, none⟩ = some (.string a0_2) := (blk_cell BK311.out 2).trans rfl
    have hcz10_3 : w5.cell? ⟨gb311, 3, none⟩ = some (.slice A0_3 l0_3.length c0_3) := (blk_cell BK311.out 3).trans rfl
    have hcz10_4 : w5.cell? ⟨gb311, 4, none⟩ = some (.int .i64 a0_4) := (blk_cell BK311.out 4).trans rfl
    have hcz10_5 : w5.cell? ⟨gb311, 5, none⟩ = some (.int .i64 a0_5) := (blk_cell BK311.out 5).trans rfl
    have hfz10_0 := blk_frozen BK311.out 0
    have hfz10_1 := blk_frozen BK311.out 1
    have hfz10_2 := blk_frozen BK311.out 2
    have hfz10_3 := blk_frozen BK311.out 3
    have hfz10_4 := blk_frozen BK311.out 4
    have hfz10_5 := blk_frozen BK311.out 5
    go_wp2_with ((((with_reducible refine gate_callee (f := 6) rfl ?_); refine goesL_ (some 10) rfl rfl Try.func6 (by kernel_rfl) rfl #[.agg #[.int .i64 a0_0, .int .i64 a0_1, .string a0_2, .slice A0_3 l0_3.length c0_3, .int .i64 a0_4, .int .i64 a0_5]] rfl (by (try simp only [List.map_toArray, List.map_cons, List.map_nil]); (rfl)) ?_; (with_reducible refine (notaryref06_Large.calls k a0_0 a0_1 a0_2 _ _ l0_3 a0_4 a0_5 false _ ?side1 ?side2 A6.out).mono ?_); (case side1 => exact Kd.C_below HR0_3.out HB.out); (case side2 => exact HC0_3.out); rintro e w11 ⟨rfl, hb⟩; refine ⟨_, rfl, ?_⟩; have n0_ := Aside0.mk (blk_below (g := gb311) (o := .cells #[.int .i64 a0_0, .int .i64 a0_1, .string a0_2, .slice A0_3 l0_3.length c0_3, .int .i64 a0_4, .int .i64 a0_5] 24 (0, 0)) (by exact BK311.out) hb); have n1_ := Aside0.mk (below_step HB.out hb); clear BK311; clear HB; have BK311 := n0_; have HB := n1_; clear n0_ n1_; (try clear hb); (skip))))
    go_meet
    case rel => exact ⟨_, (decide ((l2.length : Int) > 100)), (by (rfl)), H', ⟨by (omega)⟩, ⟨by exact BK311.out⟩, ⟨HB.out⟩⟩
  clear HC4
  obtain ⟨kq, x15_3, rfl, HA, HJ3, BK311, HB⟩ := hcut
  rcases kq with _ | kj3
  · exact absurd HA.out (by simp [notarylaw32_DeclsPairs.j0])
  have H := HA.out
  clear HA
  simp only [notarylaw32_DeclsPairs.j0] at H
  by_cases c12 : x15_3 = true
  · subst c12
    have H1 : ((notarylaw32_awake.f kj3).bind fun t313 => (some t313)) = some r := by rw [if_pos rfl] at H; exact H
    clear H
    have H := H1
    clear H1
    replace H := Option.bind_eq_some_iff.mp H
    obtain ⟨t313, A130, H⟩ := H
    replace H : (some t313) = some r := H
    have A13 := Aside0.mk A130
    clear A130
    obtain rfl := Option.some.inj H
    go_wp2_with ((((with_reducible refine gate_callee (f := 8) rfl ?_); refine goesL_ (some 16) rfl rfl Try.func8 (by kernel_rfl) rfl #[] rfl (by (try simp only [List.map_toArray, List.map_cons, List.map_nil]); (done)) ?_; (with_reducible refine (notarylaw32_awake.calls kj3  t313 _ A13.out).mono ?_); rintro e w14 ⟨rfl, hb⟩; refine ⟨_, rfl, ?_⟩; have n0_ := Aside0.mk (blk_below (g := gb311) (o := .cells #[.int .i64 a0_0, .int .i64 a0_1, .string a0_2, .slice A0_3 l0_3.length c0_3, .int .i64 a0_4, .int .i64 a0_5] 24 (0, 0)) (by exact BK311.out) hb); have n1_ := Aside0.mk (below_step HB.out hb); clear BK311; clear HB; have BK311 := n0_; have HB := n1_; clear n0_ n1_; (try clear hb); (skip))))
    go_ret
    exact ⟨by (rfl), HB.out⟩
  replace c12 := Bool.eq_false_iff.mpr c12
  subst c12
  have H1 : ((notaryref32_Side.f kj3 a1 l2 a0_0 a0_1 a0_2 l0_3 a0_4 a0_5).bind fun bt314 => (if bt314.2.2.2.2.2.2 = true then (notarylaw32_DeclsPairs.j1 kj3 a1 l2 false a0_0 a0_1 a0_2 l0_3 a0_4 a0_5) else (if a1 = 50 then (notarylaw32_DeclsPairs.j1 kj3 a1 l2 true a0_0 a0_1 a0_2 l0_3 a0_4 a0_5) else (notarylaw32_DeclsPairs.j1 kj3 a1 l2 (a1 == 51) a0_0 a0_1 a0_2 l0_3 a0_4 a0_5)))) = some r := by rw [if_neg (show ¬ (false = true) by decide)] at H; exact H
  clear H
  have H := H1
  clear H1
  replace H := Option.bind_eq_some_iff.mp H
  obtain ⟨⟨t314, t315, t316, t317, t320, t321, t322⟩, A150, H⟩ := H
  replace H : (if t322 = true then (notarylaw32_DeclsPairs.j1 kj3 a1 l2 false a0_0 a0_1 a0_2 l0_3 a0_4 a0_5) else (if a1 = 50 then (notarylaw32_DeclsPairs.j1 kj3 a1 l2 true a0_0 a0_1 a0_2 l0_3 a0_4 a0_5) else (notarylaw32_DeclsPairs.j1 kj3 a1 l2 (a1 == 51) a0_0 a0_1 a0_2 l0_3 a0_4 a0_5))) = some r := H
  have A15 := Aside0.mk A150
  clear A150
  have HC16 := Aside0.mk H
  clear H
  have hcz17_0 : wc.cell? ⟨gb311, 0, none⟩ = some (.int .i64 a0_0) := (blk_cell BK311.out 0).trans rfl
  have hcz17_1 : wc.cell? ⟨gb311, 1, none⟩ = some (.int .i64 a0_1) := (blk_cell BK311.out 1).trans rfl
  have hcz17_2 : wc.cell? ⟨gb311, 2, none⟩ = some (.string a0_2) := (blk_cell BK311.out 2).trans rfl
  have hcz17_3 : wc.cell? ⟨gb311, 3, none⟩ = some (.slice A0_3 l0_3.length c0_3) := (blk_cell BK311.out 3).trans rfl
  have hcz17_4 : wc.cell? ⟨gb311, 4, none⟩ = some (.int .i64 a0_4) := (blk_cell BK311.out 4).trans rfl
  have hcz17_5 : wc.cell? ⟨gb311, 5, none⟩ = some (.int .i64 a0_5) := (blk_cell BK311.out 5).trans rfl
  have hfz17_0 := blk_frozen BK311.out 0
  have hfz17_1 := blk_frozen BK311.out 1
  have hfz17_2 := blk_frozen BK311.out 2
  have hfz17_3 := blk_frozen BK311.out 3
  have hfz17_4 := blk_frozen BK311.out 4
  have hfz17_5 := blk_frozen BK311.out 5
  go_upto_region 4 with (first | ((with_reducible refine gate_callee (f := 13) rfl ?_); refine goesL_ (some 21) rfl rfl Try.func13 (by kernel_rfl) rfl #[.int .i64 a1, .slice A2 l2.length c2, .agg #[.int .i64 a0_0, .int .i64 a0_1, .string a0_2, .slice A0_3 l0_3.length c0_3, .int .i64 a0_4, .int .i64 a0_5]] rfl (by (try simp only [List.map_toArray, List.map_cons, List.map_nil]); (rfl)) ?_; (with_reducible refine (notaryref32_Side.calls kj3 a1 _ _ l2 a0_0 a0_1 a0_2 _ _ l0_3 a0_4 a0_5 t314 t315 t316 t317 t320 t321 t322 _ ?side1 ?side2 ?side3 ?side4 A15.out).mono ?_); (case side1 => exact Kd.C_below HR2.out HB.out); (case side2 => exact HC2.out); (case side3 => exact Kd.C_below HR0_3.out HB.out); (case side4 => exact HC0_3.out); rintro e w18 ⟨v318, rfl, ho0, hb⟩; refine ⟨_, rfl, ?_⟩; have n0_ := Aside0.mk (Kd.R_lower (Kd.R_newB ho0 (g := gb311) (o := .cells #[.int .i64 a0_0, .int .i64 a0_1, .string a0_2, .slice A0_3 l0_3.length c0_3, .int .i64 a0_4, .int .i64 a0_5] 24 (0, 0)) (by exact BK311.out)) (below_size HB.out)); have n1_ := Aside0.mk (blk_below (g := gb311) (o := .cells #[.int .i64 a0_0, .int .i64 a0_1, .string a0_2, .slice A0_3 l0_3.length c0_3, .int .i64 a0_4, .int .i64 a0_5] 24 (0, 0)) (by exact BK311.out) hb); have n2_ := Aside0.mk (below_step HB.out hb); clear BK311; clear HB; have HO319 := n0_; have BK311 := n1_; have HB := n2_; clear n0_ n1_ n2_; (try clear hb); (try clear ho0)) | ((with_reducible refine gate_dst (N := 7) rfl ?_); (try (refine gate_guard (by rfl) ?_; dsimp only)); refine box_event ?hg (N := 7) ?hd (cs := #[.int .i64 0, .int .i64 0, .string (⟨#[]⟩ : ByteArray), .slice none 0 0, .int .i64 0, .int .i64 0]) (t := 24) ?hr ?_; (case hd => rfl); (case hg => rfl); (case hr => (go_simp; done)); intro gb323 hg w19 hbox hb; have n0_ := Aside0.mk (Kd.R_below (Kd.R_elderB (by exact HO319.out) gb323 (Nat.le_of_eq hg.symm)) hb); have n1_ := Aside0.mk (blk_below (g := gb311) (o := .cells #[.int .i64 a0_0, .int .i64 a0_1, .string a0_2, .slice A0_3 l0_3.length c0_3, .int .i64 a0_4, .int .i64 a0_5] 24 (0, 0)) (by exact BK311.out) hb); have n2_ := Aside0.mk (below_step HB.out hb); have n3_ := Aside0.mk (hbox); have n4_ := Aside0.mk ((by rw [hg]; exact (below_size HB.out) : w.heap.size ≤ gb323)); have n5_ := Aside0.mk ((by rw [hg]; exact (below_size HB.out) : w.heap.size ≤ gb323)); have n6_ := Aside0.mk ((by rw [hg]; exact Nat.ne_of_lt (blk_lt (g := gb311) (o := .cells #[.int .i64 a0_0, .int .i64 a0_1, .string a0_2, .slice A0_3 l0_3.length c0_3, .int .i64 a0_4, .int .i64 a0_5] 24 (0, 0)) (by exact BK311.out)) : gb311 ≠ gb323)); have n7_ := Aside0.mk ((by rw [hg]; exact Nat.ne_of_gt (blk_lt (g := gb311) (o := .cells #[.int .i64 a0_0, .int .i64 a0_1, .string a0_2, .slice A0_3 l0_3.length c0_3, .int .i64 a0_4, .int .i64 a0_5] 24 (0, 0)) (by exact BK311.out)) : gb323 ≠ gb311)); clear HO319; clear BK311; clear HB; have HO319 := n0_; have BK311 := n1_; have HB := n2_; have BK323 := n3_; have GW323 := n4_; have GE323 := n5_; have NB311_323 := n6_; have NB323_311 := n7_; clear n0_ n1_ n2_ n3_ n4_ n5_ n6_ n7_; clear hb hbox hg; have hnb20 := NB323_311.out; have hnc20 := NB311_323.out; have hcz21_0 : w19.cell? ⟨gb323, 0, none⟩ = some (.int .i64 0) := (blk_cell BK323.out 0).trans rfl; have hcz21_1 : w19.cell? ⟨gb323, 1, none⟩ = some (.int .i64 0) := (blk_cell BK323.out 1).trans rfl; have hcz21_2 : w19.cell? ⟨gb323, 2, none⟩ = some (.string (⟨#[]⟩ : ByteArray)) := (blk_cell BK323.out 2).trans rfl; have hcz21_3 : w19.cell? ⟨gb323, 3, none⟩ = some (.slice none 0 0) := (blk_cell BK323.out 3).trans rfl; have hcz21_4 : w19.cell? ⟨gb323, 4, none⟩ = some (.int .i64 0) := (blk_cell BK323.out 4).trans rfl; have hcz21_5 : w19.cell? ⟨gb323, 5, none⟩ = some (.int .i64 0) := (blk_cell BK323.out 5).trans rfl; have hfz21_0 := blk_frozen BK323.out 0; have hfz21_1 := blk_frozen BK323.out 1; have hfz21_2 := blk_frozen BK323.out 2; have hfz21_3 := blk_frozen BK323.out 3; have hfz21_4 := blk_frozen BK323.out 4; have hfz21_5 := blk_frozen BK323.out 5; obtain ⟨Ao22, co22, eo22⟩ := Kd.R_slice HO319.out; subst eo22))
  (skip)
  go_cut [33] (fun v33 wc => ∃ (kq : Nat) (x33_15 : Bool), v33 = .bool x33_15 ∧ Aside0 (notarylaw32_DeclsPairs.j1 kq a1 l2 x33_15 a0_0 a0_1 a0_2 l0_3 a0_4 a0_5 = some r) ∧ Aside0 (kq ≤ kj3) ∧ Aside0 (Kd.R k24 24 wc w.heap.size (fun k_ => k_ ≠ gb311 ∧ k_ ≠ gb323) (.slice Ao22 t317.length co22) t317) ∧ Aside0 (wc.heap[gb311]? = some (.cells #[.int .i64 a0_0, .int .i64 a0_1, .string a0_2, (.slice A0_3 l0_3.length c0_3), .int .i64 a0_4, .int .i64 a0_5] 24 (0, 0))) ∧ Aside0 (wc.heap[gb323]? = some (.cells #[.int .i64 t314, .int .i64 t315, .string t316, (.slice Ao22 t317.length co22), .int .i64 t320, .int .i64 t321] 24 (0, 0))) ∧ Aside0 (Below w.heap.size w wc))
  case first =>
    have H := HC16.out
    clear HC16
    by_cases c23 : t322 = true
    · subst c23
      have H1 : (notarylaw32_DeclsPairs.j1 kj3 a1 l2 false a0_0 a0_1 a0_2 l0_3 a0_4 a0_5) = some r := by rw [if_pos rfl] at H; exact H
      clear H
      have H := H1
      clear H1
      have H' := Aside0.mk H
      clear H
      go_wp2
      go_meet
      case rel => exact ⟨_, (false), (by (rfl)), H', ⟨by have := HJ3.out; (omega)⟩, ⟨by exact Kd.R_mono (Kd.R_far (p := ⟨gb323, 5, none⟩) (Kd.R_far (p := ⟨gb323, 4, none⟩) (Kd.R_far (p := ⟨gb323, 3, none⟩) (Kd.R_far (p := ⟨gb323, 2, none⟩) (Kd.R_far (p := ⟨gb323, 1, none⟩) (Kd.R_far (p := ⟨gb323, 0, none⟩) (Kd.R_mono HO319.out (fun k_ hk => (⟨hk, hk.2⟩ : _ ∧ k_ ≠ gb323))) (fun _ hk => hk.2) (.int .i64 t314)) (fun _ hk => hk.2) (.int .i64 t315)) (fun _ hk => hk.2) (.string t316)) (fun _ hk => hk.2) (.slice Ao22 t317.length co22)) (fun _ hk => hk.2) (.int .i64 t320)) (fun _ hk => hk.2) (.int .i64 t321)) (fun _ hk => ⟨hk.1.1.2, hk.1.2⟩)⟩, ⟨by refine blk_far ?_ NB311_323.out _; refine blk_far ?_ NB311_323.out _; refine blk_far ?_ NB311_323.out _; refine blk_far ?_ NB311_323.out _; refine blk_far ?_ NB311_323.out _; refine blk_far ?_ NB311_323.out _; exact BK311.out⟩, ⟨by refine blk_put (cs := #[.int .i64 t314, .int .i64 t315, .string t316, .slice Ao22 t317.length co22, .int .i64 t320, .int .i64 0]) ?_ 5 _ rfl; refine blk_put (cs := #[.int .i64 t314, .int .i64 t315, .string t316, .slice Ao22 t317.length co22, .int .i64 0, .int .i64 0]) ?_ 4 _ rfl; refine blk_put (cs := #[.int .i64 t314, .int .i64 t315, .string t316, .slice none 0 0, .int .i64 0, .int .i64 0]) ?_ 3 _ rfl; refine blk_put (cs := #[.int .i64 t314, .int .i64 t315, .string (⟨#[]⟩ : ByteArray), .slice none 0 0, .int .i64 0, .int .i64 0]) ?_ 2 _ rfl; refine blk_put (cs := #[.int .i64 t314, .int .i64 0, .string (⟨#[]⟩ : ByteArray), .slice none 0 0, .int .i64 0, .int .i64 0]) ?_ 1 _ rfl; refine blk_put (cs := #[.int .i64 0, .int .i64 0, .string (⟨#[]⟩ : ByteArray), .slice none 0 0, .int .i64 0, .int .i64 0]) ?_ 0 _ rfl; exact BK323.out⟩, ⟨by repeat (with_reducible first | exact HB.out | refine below_set ?_ GE323.out)⟩⟩
    replace c23 := Bool.eq_false_iff.mpr c23
    subst c23
    have H1 : (if a1 = 50 then (notarylaw32_DeclsPairs.j1 kj3 a1 l2 true a0_0 a0_1 a0_2 l0_3 a0_4 a0_5) else (notarylaw32_DeclsPairs.j1 kj3 a1 l2 (a1 == 51) a0_0 a0_1 a0_2 l0_3 a0_4 a0_5)) = some r := by rw [if_neg (show ¬ (false = true) by decide)] at H; exact H
    clear H
    have H := H1
    clear H1
    by_cases c24 : a1 = 50
    rotate_left
    · rw [if_neg c24] at H
      have c24b0 : (a1 == 50) = false := beq_eq_false_iff_ne.mpr c24
      have c24b1 : (a1 != 50) = true := bne_iff_ne.mpr c24
      (skip)
      have H' := Aside0.mk H
      clear H
      go_wp2
      go_meet
      case rel => exact ⟨_, (a1 == 51), (by (rfl)), H', ⟨by have := HJ3.out; (omega)⟩, ⟨by exact Kd.R_mono (Kd.R_far (p := ⟨gb323, 5, none⟩) (Kd.R_far (p := ⟨gb323, 4, none⟩) (Kd.R_far (p := ⟨gb323, 3, none⟩) (Kd.R_far (p := ⟨gb323, 2, none⟩) (Kd.R_far (p := ⟨gb323, 1, none⟩) (Kd.R_far (p := ⟨gb323, 0, none⟩) (Kd.R_mono HO319.out (fun k_ hk => (⟨hk, hk.2⟩ : _ ∧ k_ ≠ gb323))) (fun _ hk => hk.2) (.int .i64 t314)) (fun _ hk => hk.2) (.int .i64 t315)) (fun _ hk => hk.2) (.string t316)) (fun _ hk => hk.2) (.slice Ao22 t317.length co22)) (fun _ hk => hk.2) (.int .i64 t320)) (fun _ hk => hk.2) (.int .i64 t321)) (fun _ hk => ⟨hk.1.1.2, hk.1.2⟩)⟩, ⟨by refine blk_far ?_ NB311_323.out _; refine blk_far ?_ NB311_323.out _; refine blk_far ?_ NB311_323.out _; refine blk_far ?_ NB311_323.out _; refine blk_far ?_ NB311_323.out _; refine blk_far ?_ NB311_323.out _; exact BK311.out⟩, ⟨by refine blk_put (cs := #[.int .i64 t314, .int .i64 t315, .string t316, .slice Ao22 t317.length co22, .int .i64 t320, .int .i64 0]) ?_ 5 _ rfl; refine blk_put (cs := #[.int .i64 t314, .int .i64 t315, .string t316, .slice Ao22 t317.length co22, .int .i64 0, .int .i64 0]) ?_ 4 _ rfl; refine blk_put (cs := #[.int .i64 t314, .int .i64 t315, .string t316, .slice none 0 0, .int .i64 0, .int .i64 0]) ?_ 3 _ rfl; refine blk_put (cs := #[.int .i64 t314, .int .i64 t315, .string (⟨#[]⟩ : ByteArray), .slice none 0 0, .int .i64 0, .int .i64 0]) ?_ 2 _ rfl; refine blk_put (cs := #[.int .i64 t314, .int .i64 0, .string (⟨#[]⟩ : ByteArray), .slice none 0 0, .int .i64 0, .int .i64 0]) ?_ 1 _ rfl; refine blk_put (cs := #[.int .i64 0, .int .i64 0, .string (⟨#[]⟩ : ByteArray), .slice none 0 0, .int .i64 0, .int .i64 0]) ?_ 0 _ rfl; exact BK323.out⟩, ⟨by repeat (with_reducible first | exact HB.out | refine below_set ?_ GE323.out)⟩⟩
    rw [if_pos c24] at H
    have c24b0 : (a1 == 50) = true := beq_iff_eq.mpr c24
    have c24b1 : (a1 != 50) = false := bne_eq_false_iff_eq.mpr c24
    clear c24
    (skip)
    have H' := Aside0.mk H
    clear H
    go_wp2
    go_meet
    case rel => exact ⟨_, (true), (by (rfl)), H', ⟨by have := HJ3.out; (omega)⟩, ⟨by exact Kd.R_mono (Kd.R_far (p := ⟨gb323, 5, none⟩) (Kd.R_far (p := ⟨gb323, 4, none⟩) (Kd.R_far (p := ⟨gb323, 3, none⟩) (Kd.R_far (p := ⟨gb323, 2, none⟩) (Kd.R_far (p := ⟨gb323, 1, none⟩) (Kd.R_far (p := ⟨gb323, 0, none⟩) (Kd.R_mono HO319.out (fun k_ hk => (⟨hk, hk.2⟩ : _ ∧ k_ ≠ gb323))) (fun _ hk => hk.2) (.int .i64 t314)) (fun _ hk => hk.2) (.int .i64 t315)) (fun _ hk => hk.2) (.string t316)) (fun _ hk => hk.2) (.slice Ao22 t317.length co22)) (fun _ hk => hk.2) (.int .i64 t320)) (fun _ hk => hk.2) (.int .i64 t321)) (fun _ hk => ⟨hk.1.1.2, hk.1.2⟩)⟩, ⟨by refine blk_far ?_ NB311_323.out _; refine blk_far ?_ NB311_323.out _; refine blk_far ?_ NB311_323.out _; refine blk_far ?_ NB311_323.out _; refine blk_far ?_ NB311_323.out _; refine blk_far ?_ NB311_323.out _; exact BK311.out⟩, ⟨by refine blk_put (cs := #[.int .i64 t314, .int .i64 t315, .string t316, .slice Ao22 t317.length co22, .int .i64 t320, .int .i64 0]) ?_ 5 _ rfl; refine blk_put (cs := #[.int .i64 t314, .int .i64 t315, .string t316, .slice Ao22 t317.length co22, .int .i64 0, .int .i64 0]) ?_ 4 _ rfl; refine blk_put (cs := #[.int .i64 t314, .int .i64 t315, .string t316, .slice none 0 0, .int .i64 0, .int .i64 0]) ?_ 3 _ rfl; refine blk_put (cs := #[.int .i64 t314, .int .i64 t315, .string (⟨#[]⟩ : ByteArray), .slice none 0 0, .int .i64 0, .int .i64 0]) ?_ 2 _ rfl; refine blk_put (cs := #[.int .i64 t314, .int .i64 0, .string (⟨#[]⟩ : ByteArray), .slice none 0 0, .int .i64 0, .int .i64 0]) ?_ 1 _ rfl; refine blk_put (cs := #[.int .i64 0, .int .i64 0, .string (⟨#[]⟩ : ByteArray), .slice none 0 0, .int .i64 0, .int .i64 0]) ?_ 0 _ rfl; exact BK323.out⟩, ⟨by repeat (with_reducible first | exact HB.out | refine below_set ?_ GE323.out)⟩⟩
  clear HC16
  try clear hcz17_0
  try clear hcz17_1
  try clear hcz17_2
  try clear hcz17_3
  try clear hcz17_4
  try clear hcz17_5
  try clear hcz21_0
  try clear hcz21_1
  try clear hcz21_2
  try clear hcz21_3
  try clear hcz21_4
  try clear hcz21_5
  try clear hfz17_0
  try clear hfz17_1
  try clear hfz17_2
  try clear hfz17_3
  try clear hfz17_4
  try clear hfz17_5
  try clear hfz21_0
  try clear hfz21_1
  try clear hfz21_2
  try clear hfz21_3
  try clear hfz21_4
  try clear hfz21_5
  obtain ⟨kq, x33_15, rfl, HA, HJ15, HO_324003, BK311, BK323, HB⟩ := hcut
  rcases kq with _ | kj15
  · exact absurd HA.out (by simp [notarylaw32_DeclsPairs.j1])
  have H := HA.out
  clear HA
  simp only [notarylaw32_DeclsPairs.j1] at H
  by_cases c25 : x33_15 = true
  · subst c25
    have H1 : ((notarylaw32_awake.f kj15).bind fun t324 => (some t324)) = some r := by rw [if_pos rfl] at H; exact H
    clear H
    have H := H1
    clear H1
    replace H := Option.bind_eq_some_iff.mp H
    obtain ⟨t324, A260, H⟩ := H
    replace H : (some t324) = some r := H
    have A26 := Aside0.mk A260
    clear A260
    obtain rfl := Option.some.inj H
    go_wp2_with ((((with_reducible refine gate_callee (f := 8) rfl ?_); refine goesL_ (some 34) rfl rfl Try.func8 (by kernel_rfl) rfl #[] rfl (by (try simp only [List.map_toArray, List.map_cons, List.map_nil]); (done)) ?_; (with_reducible refine (notarylaw32_awake.calls kj15  t324 _ A26.out).mono ?_); rintro e w27 ⟨rfl, hb⟩; refine ⟨_, rfl, ?_⟩; have n0_ := Aside0.mk (Kd.R_below (by exact HO_324003.out) hb); have n1_ := Aside0.mk (blk_below (g := gb311) (o := .cells #[.int .i64 a0_0, .int .i64 a0_1, .string a0_2, .slice A0_3 l0_3.length c0_3, .int .i64 a0_4, .int .i64 a0_5] 24 (0, 0)) (by exact BK311.out) hb); have n2_ := Aside0.mk (blk_below (g := gb323) (o := .cells #[.int .i64 t314, .int .i64 t315, .string t316, .slice Ao22 t317.length co22, .int .i64 t320, .int .i64 t321] 24 (0, 0)) (by exact BK323.out) hb); have n3_ := Aside0.mk (below_step HB.out hb); clear HO_324003; clear BK311; clear BK323; clear HB; have HO_324003 := n0_; have BK311 := n1_; have BK323 := n2_; have HB := n3_; clear n0_ n1_ n2_ n3_; (try clear hb); (skip))))
    go_ret
    exact ⟨by (rfl), HB.out⟩
  replace c25 := Bool.eq_false_iff.mpr c25
  subst c25
  have H1 : ((decls_Pairs.f kj15 a1 l2 (l0_3.length : Int)).bind fun t325 => ((notaryref32_Pairs.f kj15 a1 l2 (l0_3.length : Int)).bind fun t328 => ((notaryref32_SamePairs.f kj15 t325 t328).bind fun t331 => (if t331 = true then ((notarylaw32_awake.f kj15).bind fun t332 => (some t332)) else (some false))))) = some r := by rw [if_neg (show ¬ (false = true) by decide)] at H; exact H
  clear H
  have H := H1
  clear H1
  replace H := Option.bind_eq_some_iff.mp H
  obtain ⟨t325, A280, H⟩ := H
  replace H : ((notaryref32_Pairs.f kj15 a1 l2 (l0_3.length : Int)).bind fun t328 => ((notaryref32_SamePairs.f kj15 t325 t328).bind fun t331 => (if t331 = true then ((notarylaw32_awake.f kj15).bind fun t332 => (some t332)) else (some false)))) = some r := H
  have A28 := Aside0.mk A280
  clear A280
  replace H := Option.bind_eq_some_iff.mp H
  obtain ⟨t328, A290, H⟩ := H
  replace H : ((notaryref32_SamePairs.f kj15 t325 t328).bind fun t331 => (if t331 = true then ((notarylaw32_awake.f kj15).bind fun t332 => (some t332)) else (some false))) = some r := H
  have A29 := Aside0.mk A290
  clear A290
  replace H := Option.bind_eq_some_iff.mp H
  obtain ⟨t331, A300, H⟩ := H
  replace H : (if t331 = true then ((notarylaw32_awake.f kj15).bind fun t332 => (some t332)) else (some false)) = some r := H
  have A30 := Aside0.mk A300
  clear A300
  by_cases c31 : t331 = true
  rotate_left
  · replace c31 := Bool.eq_false_iff.mpr c31
    subst c31
    have H1 : (some false) = some r := by rw [if_neg (show ¬ (false = true) by decide)] at H; exact H
    clear H
    have H := H1
    clear H1
    obtain rfl := Option.some.inj H
    try go_wp2
    have n0_ := Aside0.mk (Kd.R_drew HO_324003.out)
    have n1_ := Aside0.mk (blk_drew BK311.out)
    have n2_ := Aside0.mk (blk_drew BK323.out)
    have n3_ := Aside0.mk (below_drew1 HB.out)
    clear HO_324003
    clear BK311
    clear BK323
    clear HB
    have HO_324003 := n0_
    have BK311 := n1_
    have BK323 := n2_
    have HB := n3_
    clear n0_ n1_ n2_ n3_
    refine start_ (n := 17) (S := fun w' => w'.cell? ⟨gb311, 0, none⟩ = some (.int .i64 a0_0) ∧ w'.cell? ⟨gb311, 1, none⟩ = some (.int .i64 a0_1) ∧ w'.cell? ⟨gb311, 2, none⟩ = some (.string a0_2) ∧ w'.cell? ⟨gb311, 3, none⟩ = some (.slice A0_3 l0_3.length c0_3) ∧ w'.cell? ⟨gb311, 4, none⟩ = some (.int .i64 a0_4) ∧ w'.cell? ⟨gb311, 5, none⟩ = some (.int .i64 a0_5)) (ds := []) (bl 17 0) (by kernel_rfl) rfl rfl ⟨(blk_cell BK311.out 0).trans rfl, (blk_cell BK311.out 1).trans rfl, (blk_cell BK311.out 2).trans rfl, (blk_cell BK311.out 3).trans rfl, (blk_cell BK311.out 4).trans rfl, (blk_cell BK311.out 5).trans rfl⟩ (fun hHeld => ?_); refine with_tabW notarylaw32_DeclsPairs.tab6 notarylaw32_DeclsPairs.bits6 (fun HT_ HW_ => ?_)
    generalize wc.drew = w39 at HO_324003 BK311 BK323 HB hHeld ⊢
    refine pure_ (i := 0) (N := some 35) (v := ?_) (a' := ?_) (bl 17 1) rfl rfl (any_of HT_.out (by kernel_rfl)) (fun _ _ _ h => h) (Or.inl ⟨by rfl, ?_⟩) ?_ ?_
    rotate_left
    · intro w'; go_simp; with_reducible rfl
    rotate_left
    · simp only [Act.put, sa_, sz_, ss_, i64_w, i32_w]; rfl
    refine pure_ (i := 1) (N := some 36) (v := ?_) (a' := ?_) (bl 17 3) rfl rfl (any_of HT_.out (by kernel_rfl)) (fun _ _ _ h => h) (Or.inl ⟨by rfl, ?_⟩) ?_ ?_
    rotate_left
    · intro w'; go_simp; with_reducible rfl
    rotate_left
    · simp only [Act.put, sa_, sz_, ss_, i64_w, i32_w]; rfl
    refine pure_ (i := 2) (N := some 37) (v := ?_) (a' := ?_) (bl 17 7) rfl rfl (any_of HT_.out (by kernel_rfl)) (fun _ _ _ h => h) (Or.inl ⟨by rfl, ?_⟩) ?_ ?_
    rotate_left
    · intro w'; go_simp; with_reducible rfl
    rotate_left
    · simp only [Act.put, sa_, sz_, ss_, i64_w, i32_w]; rfl
    refine pure_ (i := 6) (N := some 41) (v := ?_) (a' := ?_) (bl 17 71) rfl rfl (any_of HT_.out (by kernel_rfl)) (fun _ _ _ h => h) (Or.inl ⟨by rfl, ?_⟩) ?_ ?_
    rotate_left
    · intro w'; go_simp; with_reducible rfl
    rotate_left
    · simp only [Act.put, sa_, sz_, ss_, i64_w, i32_w]; rfl
    refine pure_ (i := 7) (N := some 42) (v := ?_) (a' := ?_) (bl 17 199) rfl rfl (any_of HT_.out (by kernel_rfl)) (fun _ _ _ h => h) (Or.inl ⟨by rfl, ?_⟩) ?_ ?_
    rotate_left
    · intro w'; go_simp; with_reducible rfl
    rotate_left
    · simp only [Act.put, sa_, sz_, ss_, i64_w, i32_w]; rfl
    refine pure_ (i := 8) (N := some 43) (v := ?_) (a' := ?_) (bl 17 455) rfl rfl (any_of HT_.out (by kernel_rfl)) (fun _ _ _ h => h) (Or.inl ⟨by rfl, ?_⟩) ?_ ?_
    rotate_left
    · intro w'; go_simp; with_reducible rfl
    rotate_left
    · simp only [Act.put, sa_, sz_, ss_, i64_w, i32_w]; rfl
    refine take_ (i := 3) (N := some 38) (v := ?_) (a' := ?_) (bl 17 463) rfl rfl (take_ofW HT_.out HW_.out (by kernel_rfl)) (fun _ _ _ h => h) (Or.inl ⟨by rfl, ?_⟩) hHeld ?_ ?_
    rotate_left
    · rintro w' ⟨s0, s1, s2, s3, s4, s5⟩
      go_simp
      with_reducible rfl
    rotate_left
    · simp only [Act.put, sa_, sz_, ss_, i64_w, i32_w]; rfl
    refine pure_ (i := 4) (N := some 39) (v := ?_) (a' := ?_) (bl 17 479) rfl rfl (any_of HT_.out (by kernel_rfl)) (fun _ _ _ h => h) (Or.inl ⟨by rfl, ?_⟩) ?_ ?_
    rotate_left
    · intro w'; go_simp; with_reducible rfl
    rotate_left
    · simp only [Act.put, sa_, sz_, ss_, i64_w, i32_w]; rfl
    refine take_ (i := 9) (N := some 44) (v := ?_) (a' := ?_) (bl 17 991) rfl rfl (take_ofW HT_.out HW_.out (by kernel_rfl)) (fun _ _ _ h => h) (Or.inl ⟨by rfl, ?_⟩) hHeld ?_ ?_
    rotate_left
    · rintro w' ⟨s0, s1, s2, s3, s4, s5⟩
      go_simp
      with_reducible rfl
    rotate_left
    · simp only [Act.put, sa_, sz_, ss_, i64_w, i32_w]; rfl
    refine pure_ (i := 10) (N := some 45) (v := ?_) (a' := ?_) (bl 17 2015) rfl rfl (any_of HT_.out (by kernel_rfl)) (fun _ _ _ h => h) (Or.inl ⟨by rfl, ?_⟩) ?_ ?_
    rotate_left
    · intro w'; go_simp; with_reducible rfl
    rotate_left
    · simp only [Act.put, sa_, sz_, ss_, i64_w, i32_w]; rfl
    refine one_ (i := 5) (N := some 40) (bl 17 2047) rfl rfl (one_of HT_.out (by kernel_rfl)) (by decide) (fun K hK => ?_)
    refine goes_ Try.func15 (by kernel_rfl) rfl #[.int .i64 a1, .slice A2 l2.length c2, .int .i64 (l0_3.length : Int)] (by rfl) rfl rfl (by (try simp only [List.map_toArray, List.map_cons, List.map_nil]); (rfl)) ?_
    with_reducible refine (decls_Pairs.calls kj15 a1 _ _ l2 (l0_3.length : Int) t325 _ ?side1 ?side2 A28.out).mono ?_
    (case side1 => exact Kd.C_below HR2.out HB.out)
    (case side2 => exact HC2.out)
    rintro e w40 ⟨v326, rfl, ho0, hb⟩
    refine ⟨_, rfl, ?_⟩
    have n0_ := Aside0.mk (Kd.R_below (by exact HO_324003.out) hb)
    have n1_ := Aside0.mk (Kd.R_lower ho0 (below_size HB.out))
    have n2_ := Aside0.mk (blk_below (g := gb311) (o := .cells #[.int .i64 a0_0, .int .i64 a0_1, .string a0_2, .slice A0_3 l0_3.length c0_3, .int .i64 a0_4, .int .i64 a0_5] 24 (0, 0)) (by exact BK311.out) hb)
    have n3_ := Aside0.mk (blk_below (g := gb323) (o := .cells #[.int .i64 t314, .int .i64 t315, .string t316, .slice Ao22 t317.length co22, .int .i64 t320, .int .i64 t321] 24 (0, 0)) (by exact BK323.out) hb)
    have n4_ := Aside0.mk (below_step HB.out hb)
    clear HO_324003
    clear BK311
    clear BK323
    clear HB
    have HO_324003 := n0_
    have HO327 := n1_
    have BK311 := n2_
    have BK323 := n3_
    have HB := n4_
    clear n0_ n1_ n2_ n3_ n4_
    (try clear hb)
    (skip)
    (skip)
    (skip)
    (try clear ho0)
    refine hK.out _ _ ⟨(blk_cell BK311.out 0).trans rfl, (blk_cell BK311.out 1).trans rfl, (blk_cell BK311.out 2).trans rfl, (blk_cell BK311.out 3).trans rfl, (blk_cell BK311.out 4).trans rfl, (blk_cell BK311.out 5).trans rfl⟩ (fun hHeld => ?_)
    clear hK K
    refine norm_ (a' := ?_) ?_ ?_
    rotate_left
    · show Act.put _ (some 40) _ = _
      simp only [Act.put, sa_, sz_, ss_, i64_w, i32_w]
      rfl
    refine one_ (i := 11) (N := some 46) (bl 17 4095) rfl rfl (one_of HT_.out (by kernel_rfl)) (by decide) (fun K hK => ?_)
    refine goes_ Try.func16 (by kernel_rfl) rfl #[.int .i64 a1, .slice A2 l2.length c2, .int .i64 (l0_3.length : Int)] (by rfl) rfl rfl (by (try simp only [List.map_toArray, List.map_cons, List.map_nil]); (rfl)) ?_
    with_reducible refine (notaryref32_Pairs.calls kj15 a1 _ _ l2 (l0_3.length : Int) t328 _ ?side1 ?side2 A29.out).mono ?_
    (case side1 => exact Kd.C_below HR2.out HB.out)
    (case side2 => exact HC2.out)
    rintro e w41 ⟨v329, rfl, ho0, hb⟩
    refine ⟨_, rfl, ?_⟩
    have n0_ := Aside0.mk (Kd.R_below (by exact HO_324003.out) hb)
    have n1_ := Aside0.mk (Kd.R_elder' (by exact HO327.out) (Kd.R_base ho0) hb)
    have n2_ := Aside0.mk (Kd.R_lower (Kd.R_new' ho0 (Kd.R_lt (by exact HO327.out))) (below_size HB.out))
    have n3_ := Aside0.mk (blk_below (g := gb311) (o := .cells #[.int .i64 a0_0, .int .i64 a0_1, .string a0_2, .slice A0_3 l0_3.length c0_3, .int .i64 a0_4, .int .i64 a0_5] 24 (0, 0)) (by exact BK311.out) hb)
    have n4_ := Aside0.mk (blk_below (g := gb323) (o := .cells #[.int .i64 t314, .int .i64 t315, .string t316, .slice Ao22 t317.length co22, .int .i64 t320, .int .i64 t321] 24 (0, 0)) (by exact BK323.out) hb)
    have n5_ := Aside0.mk (below_step HB.out hb)
    clear HO_324003
    clear HO327
    clear BK311
    clear BK323
    clear HB
    have HO_324003 := n0_
    have HO327 := n1_
    have HO330 := n2_
    have BK311 := n3_
    have BK323 := n4_
    have HB := n5_
    clear n0_ n1_ n2_ n3_ n4_ n5_
    (try clear hb)
    (skip)
    (skip)
    (skip)
    (try clear ho0)
    obtain ⟨Ao42, co42, eo42⟩ := Kd.R_slice HO327.out
    (subst eo42)
    obtain ⟨Ao43, co43, eo43⟩ := Kd.R_slice HO330.out
    (subst eo43)
    refine hK.out _ _ ⟨(blk_cell BK311.out 0).trans rfl, (blk_cell BK311.out 1).trans rfl, (blk_cell BK311.out 2).trans rfl, (blk_cell BK311.out 3).trans rfl, (blk_cell BK311.out 4).trans rfl, (blk_cell BK311.out 5).trans rfl⟩ (fun hHeld => ?_)
    clear hK K
    refine norm_ (a' := ?_) ?_ ?_
    rotate_left
    · show Act.put _ (some 46) _ = _
      simp only [Act.put, sa_, sz_, ss_, i64_w, i32_w]
      rfl
    refine one_ (i := 12) (N := some 47) (bl 17 8191) rfl rfl (one_of HT_.out (by kernel_rfl)) (by decide) (fun K hK => ?_)
    refine goes_ Try.func14 (by kernel_rfl) rfl #[.slice Ao42 t325.length co42, .slice Ao43 t328.length co43] (by rfl) rfl rfl (by (try simp only [List.map_toArray, List.map_cons, List.map_nil]); (rfl)) ?_
    with_reducible refine (notaryref32_SamePairs.calls kj15 _ _ t325 _ _ t328 false _ ?side1 ?side2 ?side3 ?side4 A30.out).mono ?_
    (case side1 => repeat ((exact (Kd.R_reads' HO327.out).2.2)))
    (case side2 => exact (Kd.R_reads' HO327.out).2.1)
    (case side3 => repeat ((exact (Kd.R_reads' HO330.out).2.2)))
    (case side4 => exact (Kd.R_reads' HO330.out).2.1)
    rintro e w' ⟨rfl, ⟨nd, rfl⟩⟩
    refine ⟨_, rfl, ?_⟩
    refine hK.out _ _ ⟨(blk_cell BK311.out 0).trans rfl, (blk_cell BK311.out 1).trans rfl, (blk_cell BK311.out 2).trans rfl, (blk_cell BK311.out 3).trans rfl, (blk_cell BK311.out 4).trans rfl, (blk_cell BK311.out 5).trans rfl⟩ (fun hHeld => ?_)
    clear hK K
    refine norm_ (a' := ?_) ?_ ?_
    rotate_left
    · show Act.put _ (some 47) _ = _
      simp only [Act.put, sa_, sz_, ss_, i64_w, i32_w]
      rfl
    refine pure_ (i := 13) (N := some 48) (v := ?_) (a' := ?_) (bl 17 16383) rfl rfl (any_of HT_.out (by kernel_rfl)) (fun _ _ _ h => h) (Or.inl ⟨by rfl, ?_⟩) ?_ ?_
    rotate_left
    · intro w'; go_simp; with_reducible rfl
    rotate_left
    · simp only [Act.put, sa_, sz_, ss_, i64_w, i32_w]; rfl
    refine pure_ (i := 14) (N := some 49) (v := undef) (a' := ?_) (bl 17 32767) rfl rfl (any_of HT_.out (by kernel_rfl)) (fun _ _ _ h => h) (Or.inr ⟨by rfl, rfl⟩) ?_ ?_
    rotate_left
    · simp only [Act.put, sa_, sz_, ss_, i64_w, i32_w]; rfl
    refine pure_ (i := 15) (N := some 50) (v := ?_) (a' := ?_) (bl 17 65535) rfl rfl (any_of HT_.out (by kernel_rfl)) (fun _ _ _ h => h) (Or.inl ⟨by rfl, ?_⟩) ?_ ?_
    rotate_left
    · intro w'; go_simp; with_reducible rfl
    rotate_left
    · simp only [Act.put, sa_, sz_, ss_, i64_w, i32_w]; rfl
    refine pure_ (i := 16) (N := some 6) (v := ?_) (a' := ?_) (bl 17 131071) rfl rfl (any_of HT_.out (by kernel_rfl)) (fun _ _ _ h => h) (Or.inl ⟨by rfl, ?_⟩) ?_ ?_
    rotate_left
    · intro w'; go_simp; with_reducible rfl
    rotate_left
    · simp only [Act.put, sa_, sz_, ss_, i64_w, i32_w]; rfl
    refine done_ (done_of HT_.out (by kernel_rfl)) ?_
    try go_wp2
    go_ret
    exact ⟨by (rfl), by repeat (with_reducible first | exact HB.out | apply pw_below_drewN)⟩

  subst c31
  have H1 : ((notarylaw32_awake.f kj15).bind fun t332 => (some t332)) = some r := by rw [if_pos rfl] at H; exact H
  clear H
  have H := H1
  clear H1
  replace H := Option.bind_eq_some_iff.mp H
  obtain ⟨t332, A320, H⟩ := H
  replace H : (some t332) = some r := H
  have A32 := Aside0.mk A320
  clear A320
  obtain rfl := Option.some.inj H
  try go_wp2
  have n0_ := Aside0.mk (Kd.R_drew HO_324003.out)
  have n1_ := Aside0.mk (blk_drew BK311.out)
  have n2_ := Aside0.mk (blk_drew BK323.out)
  have n3_ := Aside0.mk (below_drew1 HB.out)
  clear HO_324003
  clear BK311
  clear BK323
  clear HB
  have HO_324003 := n0_
  have BK311 := n1_
  have BK323 := n2_
  have HB := n3_
  clear n0_ n1_ n2_ n3_
  refine start_ (n := 17) (S := fun w' => w'.cell? ⟨gb311, 0, none⟩ = some (.int .i64 a0_0) ∧ w'.cell? ⟨gb311, 1, none⟩ = some (.int .i64 a0_1) ∧ w'.cell? ⟨gb311, 2, none⟩ = some (.string a0_2) ∧ w'.cell? ⟨gb311, 3, none⟩ = some (.slice A0_3 l0_3.length c0_3) ∧ w'.cell? ⟨gb311, 4, none⟩ = some (.int .i64 a0_4) ∧ w'.cell? ⟨gb311, 5, none⟩ = some (.int .i64 a0_5)) (ds := []) (bl 17 0) (by kernel_rfl) rfl rfl ⟨(blk_cell BK311.out 0).trans rfl, (blk_cell BK311.out 1).trans rfl, (blk_cell BK311.out 2).trans rfl, (blk_cell BK311.out 3).trans rfl, (blk_cell BK311.out 4).trans rfl, (blk_cell BK311.out 5).trans rfl⟩ (fun hHeld => ?_); refine with_tabW notarylaw32_DeclsPairs.tab6 notarylaw32_DeclsPairs.bits6 (fun HT_ HW_ => ?_)
  generalize wc.drew = w33 at HO_324003 BK311 BK323 HB hHeld ⊢
  refine pure_ (i := 0) (N := some 35) (v := ?_) (a' := ?_) (bl 17 1) rfl rfl (any_of HT_.out (by kernel_rfl)) (fun _ _ _ h => h) (Or.inl ⟨by rfl, ?_⟩) ?_ ?_
  rotate_left
  · intro w'; go_simp; with_reducible rfl
  rotate_left
  · simp only [Act.put, sa_, sz_, ss_, i64_w, i32_w]; rfl
  refine pure_ (i := 1) (N := some 36) (v := ?_) (a' := ?_) (bl 17 3) rfl rfl (any_of HT_.out (by kernel_rfl)) (fun _ _ _ h => h) (Or.inl ⟨by rfl, ?_⟩) ?_ ?_
  rotate_left
  · intro w'; go_simp; with_reducible rfl
  rotate_left
  · simp only [Act.put, sa_, sz_, ss_, i64_w, i32_w]; rfl
  refine pure_ (i := 2) (N := some 37) (v := ?_) (a' := ?_) (bl 17 7) rfl rfl (any_of HT_.out (by kernel_rfl)) (fun _ _ _ h => h) (Or.inl ⟨by rfl, ?_⟩) ?_ ?_
  rotate_left
  · intro w'; go_simp; with_reducible rfl
  rotate_left
  · simp only [Act.put, sa_, sz_, ss_, i64_w, i32_w]; rfl
  refine pure_ (i := 6) (N := some 41) (v := ?_) (a' := ?_) (bl 17 71) rfl rfl (any_of HT_.out (by kernel_rfl)) (fun _ _ _ h => h) (Or.inl ⟨by rfl, ?_⟩) ?_ ?_
  rotate_left
  · intro w'; go_simp; with_reducible rfl
  rotate_left
  · simp only [Act.put, sa_, sz_, ss_, i64_w, i32_w]; rfl
  refine pure_ (i := 7) (N := some 42) (v := ?_) (a' := ?_) (bl 17 199) rfl rfl (any_of HT_.out (by kernel_rfl)) (fun _ _ _ h => h) (Or.inl ⟨by rfl, ?_⟩) ?_ ?_
  rotate_left
  · intro w'; go_simp; with_reducible rfl
  rotate_left
  · simp only [Act.put, sa_, sz_, ss_, i64_w, i32_w]; rfl
  refine pure_ (i := 8) (N := some 43) (v := ?_) (a' := ?_) (bl 17 455) rfl rfl (any_of HT_.out (by kernel_rfl)) (fun _ _ _ h => h) (Or.inl ⟨by rfl, ?_⟩) ?_ ?_
  rotate_left
  · intro w'; go_simp; with_reducible rfl
  rotate_left
  · simp only [Act.put, sa_, sz_, ss_, i64_w, i32_w]; rfl
  refine take_ (i := 3) (N := some 38) (v := ?_) (a' := ?_) (bl 17 463) rfl rfl (take_ofW HT_.out HW_.out (by kernel_rfl)) (fun _ _ _ h => h) (Or.inl ⟨by rfl, ?_⟩) hHeld ?_ ?_
  rotate_left
  · rintro w' ⟨s0, s1, s2, s3, s4, s5⟩
    go_simp
    with_reducible rfl
  rotate_left
  · simp only [Act.put, sa_, sz_, ss_, i64_w, i32_w]; rfl
  refine pure_ (i := 4) (N := some 39) (v := ?_) (a' := ?_) (bl 17 479) rfl rfl (any_of HT_.out (by kernel_rfl)) (fun _ _ _ h => h) (Or.inl ⟨by rfl, ?_⟩) ?_ ?_
  rotate_left
  · intro w'; go_simp; with_reducible rfl
  rotate_left
  · simp only [Act.put, sa_, sz_, ss_, i64_w, i32_w]; rfl
  refine take_ (i := 9) (N := some 44) (v := ?_) (a' := ?_) (bl 17 991) rfl rfl (take_ofW HT_.out HW_.out (by kernel_rfl)) (fun _ _ _ h => h) (Or.inl ⟨by rfl, ?_⟩) hHeld ?_ ?_
  rotate_left
  · rintro w' ⟨s0, s1, s2, s3, s4, s5⟩
    go_simp
    with_reducible rfl
  rotate_left
  · simp only [Act.put, sa_, sz_, ss_, i64_w, i32_w]; rfl
  refine pure_ (i := 10) (N := some 45) (v := ?_) (a' := ?_) (bl 17 2015) rfl rfl (any_of HT_.out (by kernel_rfl)) (fun _ _ _ h => h) (Or.inl ⟨by rfl, ?_⟩) ?_ ?_
  rotate_left
  · intro w'; go_simp; with_reducible rfl
  rotate_left
  · simp only [Act.put, sa_, sz_, ss_, i64_w, i32_w]; rfl
  refine one_ (i := 5) (N := some 40) (bl 17 2047) rfl rfl (one_of HT_.out (by kernel_rfl)) (by decide) (fun K hK => ?_)
  refine goes_ Try.func15 (by kernel_rfl) rfl #[.int .i64 a1, .slice A2 l2.length c2, .int .i64 (l0_3.length : Int)] (by rfl) rfl rfl (by (try simp only [List.map_toArray, List.map_cons, List.map_nil]); (rfl)) ?_
  with_reducible refine (decls_Pairs.calls kj15 a1 _ _ l2 (l0_3.length : Int) t325 _ ?side1 ?side2 A28.out).mono ?_
  (case side1 => exact Kd.C_below HR2.out HB.out)
  (case side2 => exact HC2.out)
  rintro e w34 ⟨v326, rfl, ho0, hb⟩
  refine ⟨_, rfl, ?_⟩
  have n0_ := Aside0.mk (Kd.R_below (by exact HO_324003.out) hb)
  have n1_ := Aside0.mk (Kd.R_lower ho0 (below_size HB.out))
  have n2_ := Aside0.mk (blk_below (g := gb311) (o := .cells #[.int .i64 a0_0, .int .i64 a0_1, .string a0_2, .slice A0_3 l0_3.length c0_3, .int .i64 a0_4, .int .i64 a0_5] 24 (0, 0)) (by exact BK311.out) hb)
  have n3_ := Aside0.mk (blk_below (g := gb323) (o := .cells #[.int .i64 t314, .int .i64 t315, .string t316, .slice Ao22 t317.length co22, .int .i64 t320, .int .i64 t321] 24 (0, 0)) (by exact BK323.out) hb)
  have n4_ := Aside0.mk (below_step HB.out hb)
  clear HO_324003
  clear BK311
  clear BK323
  clear HB
  have HO_324003 := n0_
  have HO327 := n1_
  have BK311 := n2_
  have BK323 := n3_
  have HB := n4_
  clear n0_ n1_ n2_ n3_ n4_
  (try clear hb)
  (skip)
  (skip)
  (skip)
  (try clear ho0)
  refine hK.out _ _ ⟨(blk_cell BK311.out 0).trans rfl, (blk_cell BK311.out 1).trans rfl, (blk_cell BK311.out 2).trans rfl, (blk_cell BK311.out 3).trans rfl, (blk_cell BK311.out 4).trans rfl, (blk_cell BK311.out 5).trans rfl⟩ (fun hHeld => ?_)
  clear hK K
  refine norm_ (a' := ?_) ?_ ?_
  rotate_left
  · show Act.put _ (some 40) _ = _
    simp only [Act.put, sa_, sz_, ss_, i64_w, i32_w]
    rfl
  refine one_ (i := 11) (N := some 46) (bl 17 4095) rfl rfl (one_of HT_.out (by kernel_rfl)) (by decide) (fun K hK => ?_)
  refine goes_ Try.func16 (by kernel_rfl) rfl #[.int .i64 a1, .slice A2 l2.length c2, .int .i64 (l0_3.length : Int)] (by rfl) rfl rfl (by (try simp only [List.map_toArray, List.map_cons, List.map_nil]); (rfl)) ?_
  with_reducible refine (notaryref32_Pairs.calls kj15 a1 _ _ l2 (l0_3.length : Int) t328 _ ?side1 ?side2 A29.out).mono ?_
  (case side1 => exact Kd.C_below HR2.out HB.out)
  (case side2 => exact HC2.out)
  rintro e w35 ⟨v329, rfl, ho0, hb⟩
  refine ⟨_, rfl, ?_⟩
  have n0_ := Aside0.mk (Kd.R_below (by exact HO_324003.out) hb)
  have n1_ := Aside0.mk (Kd.R_elder' (by exact HO327.out) (Kd.R_base ho0) hb)
  have n2_ := Aside0.mk (Kd.R_lower (Kd.R_new' ho0 (Kd.R_lt (by exact HO327.out))) (below_size HB.out))
  have n3_ := Aside0.mk (blk_below (g := gb311) (o := .cells #[.int .i64 a0_0, .int .i64 a0_1, .string a0_2, .slice A0_3 l0_3.length c0_3, .int .i64 a0_4, .int .i64 a0_5] 24 (0, 0)) (by exact BK311.out) hb)
  have n4_ := Aside0.mk (blk_below (g := gb323) (o := .cells #[.int .i64 t314, .int .i64 t315, .string t316, .slice Ao22 t317.length co22, .int .i64 t320, .int .i64 t321] 24 (0, 0)) (by exact BK323.out) hb)
  have n5_ := Aside0.mk (below_step HB.out hb)
  clear HO_324003
  clear HO327
  clear BK311
  clear BK323
  clear HB
  have HO_324003 := n0_
  have HO327 := n1_
  have HO330 := n2_
  have BK311 := n3_
  have BK323 := n4_
  have HB := n5_
  clear n0_ n1_ n2_ n3_ n4_ n5_
  (try clear hb)
  (skip)
  (skip)
  (skip)
  (try clear ho0)
  obtain ⟨Ao36, co36, eo36⟩ := Kd.R_slice HO327.out
  (subst eo36)
  obtain ⟨Ao37, co37, eo37⟩ := Kd.R_slice HO330.out
  (subst eo37)
  refine hK.out _ _ ⟨(blk_cell BK311.out 0).trans rfl, (blk_cell BK311.out 1).trans rfl, (blk_cell BK311.out 2).trans rfl, (blk_cell BK311.out 3).trans rfl, (blk_cell BK311.out 4).trans rfl, (blk_cell BK311.out 5).trans rfl⟩ (fun hHeld => ?_)
  clear hK K
  refine norm_ (a' := ?_) ?_ ?_
  rotate_left
  · show Act.put _ (some 46) _ = _
    simp only [Act.put, sa_, sz_, ss_, i64_w, i32_w]
    rfl
  refine one_ (i := 12) (N := some 47) (bl 17 8191) rfl rfl (one_of HT_.out (by kernel_rfl)) (by decide) (fun K hK => ?_)
  refine goes_ Try.func14 (by kernel_rfl) rfl #[.slice Ao36 t325.length co36, .slice Ao37 t328.length co37] (by rfl) rfl rfl (by (try simp only [List.map_toArray, List.map_cons, List.map_nil]); (rfl)) ?_
  with_reducible refine (notaryref32_SamePairs.calls kj15 _ _ t325 _ _ t328 true _ ?side1 ?side2 ?side3 ?side4 A30.out).mono ?_
  (case side1 => repeat ((exact (Kd.R_reads' HO327.out).2.2)))
  (case side2 => exact (Kd.R_reads' HO327.out).2.1)
  (case side3 => repeat ((exact (Kd.R_reads' HO330.out).2.2)))
  (case side4 => exact (Kd.R_reads' HO330.out).2.1)
  rintro e w' ⟨rfl, ⟨nd, rfl⟩⟩
  refine ⟨_, rfl, ?_⟩
  refine hK.out _ _ ⟨(blk_cell BK311.out 0).trans rfl, (blk_cell BK311.out 1).trans rfl, (blk_cell BK311.out 2).trans rfl, (blk_cell BK311.out 3).trans rfl, (blk_cell BK311.out 4).trans rfl, (blk_cell BK311.out 5).trans rfl⟩ (fun hHeld => ?_)
  clear hK K
  refine norm_ (a' := ?_) ?_ ?_
  rotate_left
  · show Act.put _ (some 47) _ = _
    simp only [Act.put, sa_, sz_, ss_, i64_w, i32_w]
    rfl
  refine pure_ (i := 13) (N := some 48) (v := ?_) (a' := ?_) (bl 17 16383) rfl rfl (any_of HT_.out (by kernel_rfl)) (fun _ _ _ h => h) (Or.inl ⟨by rfl, ?_⟩) ?_ ?_
  rotate_left
  · intro w'; go_simp; with_reducible rfl
  rotate_left
  · simp only [Act.put, sa_, sz_, ss_, i64_w, i32_w]; rfl
  refine one_ (i := 14) (N := some 49) (bl 17 32767) rfl rfl (one_of HT_.out (by kernel_rfl)) (by decide) (fun K hK => ?_)
  refine goes_ Try.func8 (by kernel_rfl) rfl #[] (by rfl) rfl rfl (by (try simp only [List.map_toArray, List.map_cons, List.map_nil]); (done)) ?_
  with_reducible refine (notarylaw32_awake.calls kj15  t332 _ A32.out).mono ?_
  rintro e w38 ⟨rfl, hb⟩
  refine ⟨_, rfl, ?_⟩
  have n0_ := Aside0.mk (Kd.R_below (by (with_reducible repeat (apply Kd.R_drewN)); exact HO_324003.out) hb)
  have n1_ := Aside0.mk (Kd.R_below (by (with_reducible repeat (apply Kd.R_drewN)); exact HO327.out) hb)
  have n2_ := Aside0.mk (Kd.R_below (by (with_reducible repeat (apply Kd.R_drewN)); exact HO330.out) hb)
  have n3_ := Aside0.mk (blk_below (g := gb311) (o := .cells #[.int .i64 a0_0, .int .i64 a0_1, .string a0_2, .slice A0_3 l0_3.length c0_3, .int .i64 a0_4, .int .i64 a0_5] 24 (0, 0)) (by (with_reducible repeat (refine blk_drewN ?_ _)); exact BK311.out) hb)
  have n4_ := Aside0.mk (blk_below (g := gb323) (o := .cells #[.int .i64 t314, .int .i64 t315, .string t316, .slice Ao22 t317.length co22, .int .i64 t320, .int .i64 t321] 24 (0, 0)) (by (with_reducible repeat (refine blk_drewN ?_ _)); exact BK323.out) hb)
  have n5_ := Aside0.mk (below_step (by repeat (with_reducible first | exact HB.out | apply pw_below_drewN)) hb)
  clear HO_324003
  clear HO327
  clear HO330
  clear BK311
  clear BK323
  clear HB
  have HO_324003 := n0_
  have HO327 := n1_
  have HO330 := n2_
  have BK311 := n3_
  have BK323 := n4_
  have HB := n5_
  clear n0_ n1_ n2_ n3_ n4_ n5_
  (try clear hb)
  (skip)
  (skip)
  (skip)
  refine hK.out _ _ ⟨(blk_cell BK311.out 0).trans rfl, (blk_cell BK311.out 1).trans rfl, (blk_cell BK311.out 2).trans rfl, (blk_cell BK311.out 3).trans rfl, (blk_cell BK311.out 4).trans rfl, (blk_cell BK311.out 5).trans rfl⟩ (fun hHeld => ?_)
  clear hK K
  refine norm_ (a' := ?_) ?_ ?_
  rotate_left
  · show Act.put _ (some 49) _ = _
    simp only [Act.put, sa_, sz_, ss_, i64_w, i32_w]
    rfl
  refine pure_ (i := 15) (N := some 50) (v := ?_) (a' := ?_) (bl 17 65535) rfl rfl (any_of HT_.out (by kernel_rfl)) (fun _ _ _ h => h) (Or.inl ⟨by rfl, ?_⟩) ?_ ?_
  rotate_left
  · intro w'; go_simp; with_reducible rfl
  rotate_left
  · simp only [Act.put, sa_, sz_, ss_, i64_w, i32_w]; rfl
  refine pure_ (i := 16) (N := some 6) (v := ?_) (a' := ?_) (bl 17 131071) rfl rfl (any_of HT_.out (by kernel_rfl)) (fun _ _ _ h => h) (Or.inl ⟨by rfl, ?_⟩) ?_ ?_
  rotate_left
  · intro w'; go_simp; with_reducible rfl
  rotate_left
  · simp only [Act.put, sa_, sz_, ss_, i64_w, i32_w]; rfl
  refine done_ (done_of HT_.out (by kernel_rfl)) ?_
  try go_wp2
  go_ret
  exact ⟨by (rfl), HB.out⟩
end Go.Proofs.Ytgjmidpoebnieaa.PDm
