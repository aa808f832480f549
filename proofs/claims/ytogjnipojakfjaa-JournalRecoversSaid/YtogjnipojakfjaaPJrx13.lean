-- SLIM: a printed text of which the unused ways are cut off
-- PRINTED by print.py (a twelfth state) out of the translation. Not trusted: Lean checks it.
import Derived.Test.YtogjnipojakfjaaPJrx0
import Derived.Test.YtogjnipojakfjaaPJrx5
import Derived.Test.YtogjnipojakfjaaPJrx7
import Derived.Test.YtogjnipojakfjaaPJrx12
namespace Go.Proofs.Ytogjnipojakfjaa.PJr
open Go.RowKit Go.Proofs.YtogjnipojakfjaaW.PrintWords Go.Proofs.YtogjnipojakfjaaW.PrintLast Go.Proofs.YtogjnipojakfjaaW.PrintMore
attribute [local go_sem] max2_int min2_int max_two min_two max_three min_three max_four min_four   -- for this text's walks alone
set_option linter.unusedVariables false
set_option linter.unusedSimpArgs false

/-! ### notaryref47_Right: function 62 -/
def notaryref47_Right.l0 : Nat → List Int → List (S35) → List (List Int) → List Int → Int → Option (Int)
  | 0, _, _, _, _, _ => none
  | k + 1, x0, x1, x2, x7, x8 => if x8 < (x1.length : Int) then (if 0 ≤ x8 then ((notaryref47_Next.f k x0 x7 (wrap64 (x8 + 1)) ((rd_T35 x1 x8).f0) ((rd_T35 x1 x8).f1)).bind fun t438 => (if x8 < (x2.length : Int) then ((notaryref01_Same.f k t438 (rd_L3 x2 x8)).bind fun t442 => (if t442 = true then (notaryref47_Right.l0 k x0 x1 x2 (rd_L3 x2 x8) (wrap64 (x8 + 1))) else (some x8))) else (none))) else (none)) else (some (x1.length : Int))
def notaryref47_Right.f (k : Nat) (l0 : List Int) (l1 : List (S35)) (l2 : List (List Int)) : Option (Int) := (notaryref47_First.f).bind fun t434 => (notaryref47_Right.l0 k l0 l1 l2 t434 0)
theorem notaryref47_Right.mono_l : ∀ k, (∀ y0 y1 y2 y3 y4, LeO (notaryref47_Right.l0 k y0 y1 y2 y3 y4) (notaryref47_Right.l0 (k + 1) y0 y1 y2 y3 y4))
  | 0 => fun _ _ _ _ _ r h => by simp [notaryref47_Right.l0] at h
  | k + 1 => by
    have ih0 := notaryref47_Right.mono_l k
    · intro y0 y1 y2 y3 y4
      unfold notaryref47_Right.l0
      repeat' first | (with_reducible exact ih0 _ _ _ _ _) | (with_reducible exact notaryref01_Same.mono _ _ _) | (with_reducible exact notaryref47_Next.mono _ _ _ _ _ _) | (with_reducible exact LeO.refl _) | (with_reducible refine LeO.ite ?_ ?_) | (with_reducible refine LeO.bind ?_ (fun _ => ?_))
theorem notaryref47_Right.mono : ∀ a0 a1 a2 k, LeO (notaryref47_Right.f k a0 a1 a2) (notaryref47_Right.f (k + 1) a0 a1 a2) := by
  intro a0 a1 a2 k
  have ih0 := notaryref47_Right.mono_l k
  unfold notaryref47_Right.f
  repeat' first | (with_reducible exact ih0 _ _ _ _ _) | (with_reducible exact LeO.refl _) | (with_reducible refine LeO.bind ?_ (fun _ => ?_))
def notaryref47_Right.T5 : Bool × List (List Nat × List Nat) := (true, [([], []), ([], []), ([], []), ([2], [2]), ([], []), ([], []), ([4, 5], [4, 5]), ([6], [6]), ([0, 1, 3, 7], [0, 1, 3, 7]), ([], []), ([], []), ([9, 10], [9, 10]), ([11], [11]), ([8, 12, 8], [8, 12]), ([13], [13])])
def notaryref47_Right.B5 : List Nat := [0, 0, 0, 4, 0, 0, 48, 112, 255, 0, 0, 1536, 3584, 8191, 16383]
theorem notaryref47_Right.tab5 : rtab .any (opsOf Try.f62 5) = notaryref47_Right.T5 := by kernel_rfl
theorem notaryref47_Right.bits5 : waitsOk notaryref47_Right.T5.2 notaryref47_Right.B5 = true := by kernel_rfl
set_option maxHeartbeats 8000000 in
set_option maxRecDepth 100000 in
theorem notaryref47_Right.calls (k : Nat) (A0 : Option Addr) (c0 : Nat) (l0 : List Int) (A1 : Option Addr) (c1 : Nat) (l1 : List (S35)) (P2_ : Nat → Prop) (A2 : Option Addr) (c2 : Nat) (l2 : List (List Int)) (r : Int) (w : World) (hr0 : Kd.C (Kd.int .u8) w A0 l0.length l0) (hc0 : l0.length ≤ c0) (hr1 : Kd.C k35 w A1 l1.length l1) (hc1 : l1.length ≤ c1) (hs2 : Kd.V (Kd.slice 5 (Kd.int .u8)) 22 w w.heap.size (fun k_ => P2_ k_) (.slice A2 l2.length c2) l2) (h : notaryref47_Right.f k l0 l1 l2 = some r) :
    Calls Try.prog 62 #[.slice A0 l0.length c0, .slice A1 l1.length c1, .slice A2 l2.length c2] w fun e w' => e = .returned (.int .i64 r) ∧ Below w.heap.size w w' := by
  have hu35 := Try.underlying35
  have HR0 := Aside0.mk hr0
  have HC0 := Aside0.mk hc0
  clear hr0 hc0
  have HR1 := Aside0.mk hr1
  have HC1 := Aside0.mk hc1
  clear hr1 hc1
  have HO2 := Aside0.mk (show Kd.V (Kd.slice 5 (Kd.int .u8)) 22 w w.heap.size (fun k_ => (P2_ k_ ∨ w.heap.size ≤ k_)) (.slice A2 l2.length c2) l2 from Kd.V_mono hs2 (fun k_ hk => .inl hk))
  have HB := Aside0.mk (Below.refl w.heap.size w)
  have H : ((notaryref47_First.f).bind fun t434 => (notaryref47_Right.l0 k l0 l1 l2 t434 0)) = some r := h
  clear h
  replace H := Option.bind_eq_some_iff.mp H
  obtain ⟨t434, A40, H⟩ := H
  replace H : (notaryref47_Right.l0 k l0 l1 l2 t434 0) = some r := H
  have A4 := Aside0.mk A40
  clear A40
  have H' := Aside0.mk H
  clear H
  go_enter Try.func62, Try.ntmps62
  go_wp2_with ((((with_reducible refine gate_callee (f := 26) rfl ?_); refine goesL_ (some 9) rfl rfl Try.func26 (by kernel_rfl) rfl #[] rfl (by (try simp only [List.map_toArray, List.map_cons, List.map_nil]); (done)) ?_; (with_reducible refine (notaryref47_First.calls  t434 _ A4.out).mono ?_); rintro e w5 ⟨v435, rfl, ho0, hb⟩; refine ⟨_, rfl, ?_⟩; have n0_ := Aside0.mk (Kd.V_elder' (by exact HO2.out) (Kd.R_base ho0) hb); have n1_ := Aside0.mk (Kd.R_lower (Kd.R_newM (M := fun k_ => (w.heap.size ≤ k_)) ho0 (below_size HB.out) (fun k_ h_ => h_)) (below_size HB.out)); have n2_ := Aside0.mk (below_step HB.out hb); clear HO2; clear HB; have HO2 := n0_; have HO436 := n1_; have HB := n2_; clear n0_ n1_ n2_; (try clear hb); (try clear ho0))))
  go_loopg [7, 8] k (fun kq v7 v8 w' => ∃ (x7_1 : List Int) (x8_1 : Int), v8 = .int .i64 x8_1 ∧ Aside0 (notaryref47_Right.l0 kq l0 l1 l2 x7_1 x8_1 = some r) ∧ Aside0 (kq ≤ k) ∧ Aside0 (Kd.V (Kd.slice 5 (Kd.int .u8)) 22 w' w.heap.size (fun k_ => (P2_ k_ ∨ w.heap.size ≤ k_)) (.slice A2 l2.length c2) l2) ∧ Aside0 (Kd.V (Kd.int .u8) 5 w' w.heap.size (fun k_ => (P2_ k_ ∨ w.heap.size ≤ k_)) v7 x7_1) ∧ Aside0 (Below w.heap.size w w'))
  case atStart => exact ⟨(t434), (0), (by (rfl)), H', ⟨Nat.le_refl _⟩, ⟨by exact Kd.V_mono HO2.out (fun _ hk => hk.1)⟩, ⟨Kd.V_mono (Kd.R_V (by exact Kd.R_mono HO436.out (fun _ hk => hk.1))) (fun k_ hk => by (exact (.inr (hk))))⟩, ⟨HB.out⟩⟩
  clear H'
  obtain ⟨x7_1, x8_1, rfl, HA, HK1, HO_2, HO_7, HB⟩ := hrel
  rcases gk with _ | k1
  · exact absurd HA.out (by simp [notaryref47_Right.l0])
  have H := HA.out
  clear HA
  simp only [notaryref47_Right.l0] at H
  by_cases c6 : x8_1 < (l1.length : Int)
  rotate_left
  · rw [if_neg c6] at H
    have c6b0 : decide (x8_1 < (l1.length : Int)) = false := decide_eq_false c6
    clear c6
    obtain rfl := Option.some.inj H
    go_wp2
    go_ret
    exact ⟨by (rfl), HB.out⟩


  rw [if_pos c6] at H
  have c6b0 : decide (x8_1 < (l1.length : Int)) = true := decide_eq_true c6
  clear c6
  by_cases c7 : 0 ≤ x8_1
  rotate_left
  · rw [if_neg c7] at H
    exact absurd H (by simp)
  rw [if_pos c7] at H
  have c7b0 : decide (0 ≤ x8_1) = true := decide_eq_true c7
  clear c7
  replace H := Option.bind_eq_some_iff.mp H
  obtain ⟨t438, A80, H⟩ := H
  replace H : (if x8_1 < (l2.length : Int) then ((notaryref01_Same.f k1 t438 (rd_L3 l2 x8_1)).bind fun t442 => (if t442 = true then (notaryref47_Right.l0 k1 l0 l1 l2 (rd_L3 l2 x8_1) (wrap64 (x8_1 + 1))) else (some x8_1))) else (none)) = some r := H
  have A8 := Aside0.mk A80
  clear A80
  by_cases c9 : x8_1 < (l2.length : Int)
  rotate_left
  · rw [if_neg c9] at H
    exact absurd H (by simp)
  rw [if_pos c9] at H
  have c9b0 : decide (x8_1 < (l2.length : Int)) = true := decide_eq_true c9
  clear c9
  replace H := Option.bind_eq_some_iff.mp H
  obtain ⟨t442, A100, H⟩ := H
  replace H : (if t442 = true then (notaryref47_Right.l0 k1 l0 l1 l2 (rd_L3 l2 x8_1) (wrap64 (x8_1 + 1))) else (some x8_1)) = some r := H
  have A10 := Aside0.mk A100
  clear A100
  by_cases c11 : t442 = true
  rotate_left
  · replace c11 := Bool.eq_false_iff.mpr c11
    subst c11
    have H1 : (some x8_1) = some r := by rw [if_neg (show ¬ (false = true) by decide)] at H; exact H
    clear H
    have H := H1
    clear H1
    obtain rfl := Option.some.inj H
    try go_wp2
    have n0_ := Aside0.mk (Kd.V_drew HO_2.out)
    have n1_ := Aside0.mk (Kd.V_drew HO_7.out)
    have n2_ := Aside0.mk (below_drew1 HB.out)
    clear HO_2
    clear HO_7
    clear HB
    have HO_2 := n0_
    have HO_7 := n1_
    have HB := n2_
    clear n0_ n1_ n2_
    have p437 : 0 ≤ (x8_1 : Int) := of_decide_eq_true (by (with_reducible assumption))
    have q437 : x8_1 < (l1.length : Int) := of_decide_eq_true (by (with_reducible assumption))
    obtain ⟨ad437, A437_1, c437_1, e437, hx437_0, hx437_1, hl437_1, hi437_1⟩ := at_T35 HR1.out x8_1 p437 q437
    have hw437_1 := hx437_1
    have hw437_0 := hx437_0
    cases e437
    replace hx437_0 := pw_cell_below HB.out hx437_0
    replace hx437_1 := pw_cell_below HB.out hx437_1
    have HR437_1 := Aside0.mk hi437_1
    have HC437_1 := Aside0.mk hl437_1
    clear hi437_1 hl437_1
    replace p437 := eq_true p437
    replace q437 := eq_true q437
    have p441 : 0 ≤ (x8_1 : Int) := of_decide_eq_true (by (with_reducible assumption))
    have q441 : x8_1 < (l2.length : Int) := of_decide_eq_true (by (with_reducible assumption))
    obtain ⟨ad441, A441_0, c441_0, e441, hx441_0, hl441_0, hi441_0⟩ := at_L3 (Kd.V_reads' HO_2.out).2.2 x8_1 p441 q441
    cases e441
    obtain ⟨ce441, hce441, hMe441, hcc441⟩ := Kd.V_get HO_2.out [] x8_1 p441 (by (exact q441))
    obtain ⟨ua441_0, uc441_0, rfl, ul441_0, ge441_0⟩ := Kd.FK_slice_open hMe441
    have hv441_0 := hcc441 0 _ rfl
    rw [Nat.add_zero, show ((Kd.slice 5 (Kd.int .u8))).sz = 1 from rfl, Nat.mul_one] at hv441_0
    replace hv441_0 := Option.some.inj (hv441_0.symm.trans hx441_0)
    injection hv441_0 with hva_ hvn_ hvc_
    rw [hva_] at ge441_0
    rw [hvc_] at ul441_0
    have HL441_0 := Aside0.mk (show Kd.V (Kd.int .u8) 5 _ w.heap.size _ _ (rd_L3 l2 x8_1) from Kd.V_mk ul441_0 ge441_0)
    clear hva_ hvn_ hvc_ ge441_0 ul441_0
    clear hcc441 hce441
    have HR441_0 := Aside0.mk hi441_0
    have HC441_0 := Aside0.mk hl441_0
    clear hi441_0 hl441_0
    replace p441 := eq_true p441
    replace q441 := eq_true q441
    obtain ⟨Ao17, co17, eo17⟩ := Kd.V_slice HO_7.out
    (subst eo17)
    refine start_ (n := 15) (S := fun w' => w'.cell? (ad437.add ((x8_1).toNat * 2)) = some (.int .i64 ((rd_T35 l1 x8_1).f0)) ∧ w'.cell? ⟨(ad437.add ((x8_1).toNat * 2)).block, (ad437.add ((x8_1).toNat * 2)).off + 1, none⟩ = some (.slice A437_1 ((rd_T35 l1 x8_1).f1).length c437_1) ∧ w'.cell? (ad441.add (x8_1).toNat) = some (.slice A441_0 (rd_L3 l2 x8_1).length c441_0)) (ds := []) (bl 15 0) (by kernel_rfl) rfl rfl ⟨(pw_cell_below HB.out hw437_0), (pw_cell_below HB.out hw437_1), hx441_0⟩ (fun hHeld => ?_); refine with_tabW notaryref47_Right.tab5 notaryref47_Right.bits5 (fun HT_ HW_ => ?_)
    generalize wr.drew = w16 at HO_2 HO_7 HB HL441_0 HR437_1 HR441_0 hx437_0 hx437_1 hx441_0 hHeld ⊢
    refine pure_ (i := 0) (N := some 16) (v := ?_) (a' := ?_) (bl 15 1) rfl rfl (any_of HT_.out (by kernel_rfl)) (fun _ _ _ h => h) (Or.inl ⟨by rfl, ?_⟩) ?_ ?_
    rotate_left
    · intro w'; go_simp; with_reducible rfl
    rotate_left
    · simp only [Act.put, sa_, sz_, ss_, i64_w, i32_w]; rfl
    refine pure_ (i := 1) (N := some 17) (v := ?_) (a' := ?_) (bl 15 3) rfl rfl (any_of HT_.out (by kernel_rfl)) (fun _ _ _ h => h) (Or.inl ⟨by rfl, ?_⟩) ?_ ?_
    rotate_left
    · intro w'; go_simp; with_reducible rfl
    rotate_left
    · simp only [Act.put, sa_, sz_, ss_, i64_w, i32_w]; rfl
    refine pure_ (i := 2) (N := some 18) (v := ?_) (a' := ?_) (bl 15 7) rfl rfl (any_of HT_.out (by kernel_rfl)) (fun _ _ _ h => h) (Or.inl ⟨by rfl, ?_⟩) ?_ ?_
    rotate_left
    · intro w'; go_simp; with_reducible rfl
    rotate_left
    · simp only [Act.put, sa_, sz_, ss_, i64_w, i32_w]; rfl
    refine pure_ (i := 3) (N := some 19) (v := ?_) (a' := ?_) (bl 15 15) rfl rfl (any_of HT_.out (by kernel_rfl)) (fun _ _ _ h => h) (Or.inl ⟨by rfl, ?_⟩) ?_ ?_
    rotate_left
    · intro w'; go_simp; with_reducible rfl
    rotate_left
    · simp only [Act.put, sa_, sz_, ss_, i64_w, i32_w]; rfl
    refine pure_ (i := 4) (N := some 20) (v := ?_) (a' := ?_) (bl 15 31) rfl rfl (any_of HT_.out (by kernel_rfl)) (fun _ _ _ h => h) (Or.inl ⟨by rfl, ?_⟩) ?_ ?_
    rotate_left
    · intro w'; go_simp; with_reducible rfl
    rotate_left
    · simp only [Act.put, sa_, sz_, ss_, i64_w, i32_w]; rfl
    refine pure_ (i := 5) (N := some 21) (v := ?_) (a' := ?_) (bl 15 63) rfl rfl (any_of HT_.out (by kernel_rfl)) (fun _ _ _ h => h) (Or.inl ⟨by rfl, ?_⟩) ?_ ?_
    rotate_left
    · intro w'; go_simp; with_reducible rfl
    rotate_left
    · simp only [Act.put, sa_, sz_, ss_, i64_w, i32_w]; rfl
    refine pure_ (i := 6) (N := some 22) (v := ?_) (a' := ?_) (bl 15 127) rfl rfl (any_of HT_.out (by kernel_rfl)) (fun _ _ _ h => h) (Or.inl ⟨by rfl, ?_⟩) ?_ ?_
    rotate_left
    · intro w'; go_simp; with_reducible rfl
    rotate_left
    · simp only [Act.put, sa_, sz_, ss_, i64_w, i32_w]; rfl
    refine pure_ (i := 9) (N := some 25) (v := ?_) (a' := ?_) (bl 15 639) rfl rfl (any_of HT_.out (by kernel_rfl)) (fun _ _ _ h => h) (Or.inl ⟨by rfl, ?_⟩) ?_ ?_
    rotate_left
    · intro w'; go_simp; with_reducible rfl
    rotate_left
    · simp only [Act.put, sa_, sz_, ss_, i64_w, i32_w]; rfl
    refine pure_ (i := 10) (N := some 26) (v := ?_) (a' := ?_) (bl 15 1663) rfl rfl (any_of HT_.out (by kernel_rfl)) (fun _ _ _ h => h) (Or.inl ⟨by rfl, ?_⟩) ?_ ?_
    rotate_left
    · intro w'; go_simp; with_reducible rfl
    rotate_left
    · simp only [Act.put, sa_, sz_, ss_, i64_w, i32_w]; rfl
    refine pure_ (i := 11) (N := some 27) (v := ?_) (a' := ?_) (bl 15 3711) rfl rfl (any_of HT_.out (by kernel_rfl)) (fun _ _ _ h => h) (Or.inl ⟨by rfl, ?_⟩) ?_ ?_
    rotate_left
    · intro w'; go_simp; with_reducible rfl
    rotate_left
    · simp only [Act.put, sa_, sz_, ss_, i64_w, i32_w]; rfl
    refine take_ (i := 7) (N := some 23) (v := ?_) (a' := ?_) (bl 15 3839) rfl rfl (take_ofW HT_.out HW_.out (by kernel_rfl)) (fun _ _ _ h => h) (Or.inl ⟨by rfl, ?_⟩) hHeld ?_ ?_
    rotate_left
    · rintro w' ⟨s0, s1, s2⟩
      go_simp
      with_reducible rfl
    rotate_left
    · simp only [Act.put, sa_, sz_, ss_, i64_w, i32_w]; rfl
    refine take_ (i := 12) (N := some 28) (v := ?_) (a' := ?_) (bl 15 7935) rfl rfl (take_ofW HT_.out HW_.out (by kernel_rfl)) (fun _ _ _ h => h) (Or.inl ⟨by rfl, ?_⟩) hHeld ?_ ?_
    rotate_left
    · rintro w' ⟨s0, s1, s2⟩
      go_simp
      with_reducible rfl
    rotate_left
    · simp only [Act.put, sa_, sz_, ss_, i64_w, i32_w]; rfl
    refine one_ (i := 8) (N := some 24) (bl 15 8191) rfl rfl (one_of HT_.out (by kernel_rfl)) (by decide) (fun K hK => ?_)
    refine goes_ Try.func44 (by kernel_rfl) rfl #[.slice A0 l0.length c0, .slice Ao17 x7_1.length co17, .int .i64 (wrap64 (x8_1 + 1)), .agg #[.int .i64 ((rd_T35 l1 x8_1).f0), .slice A437_1 ((rd_T35 l1 x8_1).f1).length c437_1]] (by rfl) rfl rfl (by (try simp only [List.map_toArray, List.map_cons, List.map_nil]); (rfl)) ?_
    with_reducible refine (notaryref47_Next.calls k1 _ _ l0 _ _ x7_1 (wrap64 (x8_1 + 1)) ((rd_T35 l1 x8_1).f0) _ _ ((rd_T35 l1 x8_1).f1) t438 _ ?side1 ?side2 ?side3 ?side4 ?side5 ?side6 A8.out).mono ?_
    (case side1 => exact Kd.C_below HR0.out HB.out)
    (case side2 => exact HC0.out)
    (case side3 => repeat ((exact (Kd.V_reads' HO_7.out).2.2)))
    (case side4 => exact (Kd.V_reads' HO_7.out).2.1)
    (case side5 => exact Kd.C_below HR437_1.out HB.out)
    (case side6 => exact HC437_1.out)
    rintro e w18 ⟨v439, rfl, ho0, hb⟩
    have HS2_ := (hb.cell (World.block_lt_of_cell? _ _ (hHeld.2.2))).trans (hHeld.2.2)
    refine ⟨_, rfl, ?_⟩
    have n0_ := Aside0.mk (Kd.V_elder' (by exact HO_2.out) (Kd.R_base ho0) hb)
    have n1_ := Aside0.mk (Kd.V_elder' (by exact HO_7.out) (Kd.R_base ho0) hb)
    have n2_ := Aside0.mk (Kd.V_elder' (by exact HL441_0.out) (Kd.R_base ho0) hb)
    have n3_ := Aside0.mk (Kd.R_lower (Kd.R_newM (M := fun k_ => (w.heap.size ≤ k_)) ho0 (below_size HB.out) (fun k_ h_ => h_)) (below_size HB.out))
    have n4_ := Aside0.mk (Kd.C_below (by repeat (with_reducible exact HR441_0.out)) hb)
    have n5_ := Aside0.mk (below_step HB.out hb)
    clear HO_2
    clear HO_7
    clear HL441_0
    clear HR441_0
    clear HB
    have HO_2 := n0_
    have HO_7 := n1_
    have HL441_0 := n2_
    have HO440 := n3_
    have HR441_0 := n4_
    have HB := n5_
    clear n0_ n1_ n2_ n3_ n4_ n5_
    (try clear hb)
    (skip)
    (skip)
    (skip)
    (try clear ho0)
    obtain ⟨Ao19, co19, eo19⟩ := Kd.R_slice HO440.out
    (subst eo19)
    refine hK.out _ _ ⟨(pw_cell_below HB.out hw437_0), (pw_cell_below HB.out hw437_1), HS2_⟩ (fun hHeld => ?_)
    clear hK K
    refine norm_ (a' := ?_) ?_ ?_
    rotate_left
    · show Act.put _ (some 24) _ = _
      simp only [Act.put, sa_, sz_, ss_, i64_w, i32_w]
      rfl
    refine one_ (i := 13) (N := some 29) (bl 15 16383) rfl rfl (one_of HT_.out (by kernel_rfl)) (by decide) (fun K hK => ?_)
    refine goes_ Try.func16 (by kernel_rfl) rfl #[.slice Ao19 t438.length co19, .slice A441_0 (rd_L3 l2 x8_1).length c441_0] (by rfl) rfl rfl (by (try simp only [List.map_toArray, List.map_cons, List.map_nil]); (rfl)) ?_
    with_reducible refine (notaryref01_Same.calls k1 _ _ t438 _ _ (rd_L3 l2 x8_1) false _ ?side1 ?side2 ?side3 ?side4 A10.out).mono ?_
    (case side1 => repeat ((exact (Kd.R_reads' HO440.out).2.2)))
    (case side2 => exact (Kd.R_reads' HO440.out).2.1)
    (case side3 => repeat ((exact (by repeat (with_reducible exact HR441_0.out)))))
    (case side4 => exact HC441_0.out)
    rintro e w' ⟨rfl, ⟨nd, rfl⟩⟩
    refine ⟨_, rfl, ?_⟩
    refine hK.out _ _ ⟨(pw_cell_below HB.out hw437_0), (pw_cell_below HB.out hw437_1), hHeld.2.2⟩ (fun hHeld => ?_)
    clear hK K
    refine norm_ (a' := ?_) ?_ ?_
    rotate_left
    · show Act.put _ (some 29) _ = _
      simp only [Act.put, sa_, sz_, ss_, i64_w, i32_w]
      rfl
    refine pure_ (i := 14) (N := some 30) (v := ?_) (a' := ?_) (bl 15 32767) rfl rfl (any_of HT_.out (by kernel_rfl)) (fun _ _ _ h => h) (Or.inl ⟨by rfl, ?_⟩) ?_ ?_
    rotate_left
    · intro w'; go_simp; with_reducible rfl
    rotate_left
    · simp only [Act.put, sa_, sz_, ss_, i64_w, i32_w]; rfl
    refine done_ (done_of HT_.out (by kernel_rfl)) ?_
    try go_wp2
    go_ret
    exact ⟨by (rfl), by repeat (with_reducible first | exact HB.out | apply pw_below_drewN)⟩
  subst c11
  have H1 : (notaryref47_Right.l0 k1 l0 l1 l2 (rd_L3 l2 x8_1) (wrap64 (x8_1 + 1))) = some r := by rw [if_pos rfl] at H; exact H
  clear H
  have H := H1
  clear H1
  have H' := Aside0.mk H
  clear H
  try go_wp2
  have n0_ := Aside0.mk (Kd.V_drew HO_2.out)
  have n1_ := Aside0.mk (Kd.V_drew HO_7.out)
  have n2_ := Aside0.mk (below_drew1 HB.out)
  clear HO_2
  clear HO_7
  clear HB
  have HO_2 := n0_
  have HO_7 := n1_
  have HB := n2_
  clear n0_ n1_ n2_
  have p437 : 0 ≤ (x8_1 : Int) := of_decide_eq_true (by (with_reducible assumption))
  have q437 : x8_1 < (l1.length : Int) := of_decide_eq_true (by (with_reducible assumption))
  obtain ⟨ad437, A437_1, c437_1, e437, hx437_0, hx437_1, hl437_1, hi437_1⟩ := at_T35 HR1.out x8_1 p437 q437
  have hw437_1 := hx437_1
  have hw437_0 := hx437_0
  cases e437
  replace hx437_0 := pw_cell_below HB.out hx437_0
  replace hx437_1 := pw_cell_below HB.out hx437_1
  have HR437_1 := Aside0.mk hi437_1
  have HC437_1 := Aside0.mk hl437_1
  clear hi437_1 hl437_1
  replace p437 := eq_true p437
  replace q437 := eq_true q437
  have p441 : 0 ≤ (x8_1 : Int) := of_decide_eq_true (by (with_reducible assumption))
  have q441 : x8_1 < (l2.length : Int) := of_decide_eq_true (by (with_reducible assumption))
  obtain ⟨ad441, A441_0, c441_0, e441, hx441_0, hl441_0, hi441_0⟩ := at_L3 (Kd.V_reads' HO_2.out).2.2 x8_1 p441 q441
  cases e441
  obtain ⟨ce441, hce441, hMe441, hcc441⟩ := Kd.V_get HO_2.out [] x8_1 p441 (by (exact q441))
  obtain ⟨ua441_0, uc441_0, rfl, ul441_0, ge441_0⟩ := Kd.FK_slice_open hMe441
  have hv441_0 := hcc441 0 _ rfl
  rw [Nat.add_zero, show ((Kd.slice 5 (Kd.int .u8))).sz = 1 from rfl, Nat.mul_one] at hv441_0
  replace hv441_0 := Option.some.inj (hv441_0.symm.trans hx441_0)
  injection hv441_0 with hva_ hvn_ hvc_
  rw [hva_] at ge441_0
  rw [hvc_] at ul441_0
  have HL441_0 := Aside0.mk (show Kd.V (Kd.int .u8) 5 _ w.heap.size _ _ (rd_L3 l2 x8_1) from Kd.V_mk ul441_0 ge441_0)
  clear hva_ hvn_ hvc_ ge441_0 ul441_0
  clear hcc441 hce441
  have HR441_0 := Aside0.mk hi441_0
  have HC441_0 := Aside0.mk hl441_0
  clear hi441_0 hl441_0
  replace p441 := eq_true p441
  replace q441 := eq_true q441
  obtain ⟨Ao13, co13, eo13⟩ := Kd.V_slice HO_7.out
  (subst eo13)
  refine start_ (n := 15) (S := fun w' => w'.cell? (ad437.add ((x8_1).toNat * 2)) = some (.int .i64 ((rd_T35 l1 x8_1).f0)) ∧ w'.cell? ⟨(ad437.add ((x8_1).toNat * 2)).block, (ad437.add ((x8_1).toNat * 2)).off + 1, none⟩ = some (.slice A437_1 ((rd_T35 l1 x8_1).f1).length c437_1) ∧ w'.cell? (ad441.add (x8_1).toNat) = some (.slice A441_0 (rd_L3 l2 x8_1).length c441_0)) (ds := []) (bl 15 0) (by kernel_rfl) rfl rfl ⟨(pw_cell_below HB.out hw437_0), (pw_cell_below HB.out hw437_1), hx441_0⟩ (fun hHeld => ?_); refine with_tabW notaryref47_Right.tab5 notaryref47_Right.bits5 (fun HT_ HW_ => ?_)
  generalize wr.drew = w12 at HO_2 HO_7 HB HL441_0 HR437_1 HR441_0 hx437_0 hx437_1 hx441_0 hHeld ⊢
  refine pure_ (i := 0) (N := some 16) (v := ?_) (a' := ?_) (bl 15 1) rfl rfl (any_of HT_.out (by kernel_rfl)) (fun _ _ _ h => h) (Or.inl ⟨by rfl, ?_⟩) ?_ ?_
  rotate_left
  · intro w'; go_simp; with_reducible rfl
  rotate_left
  · simp only [Act.put, sa_, sz_, ss_, i64_w, i32_w]; rfl
  refine pure_ (i := 1) (N := some 17) (v := ?_) (a' := ?_) (bl 15 3) rfl rfl (any_of HT_.out (by kernel_rfl)) (fun _ _ _ h => h) (Or.inl ⟨by rfl, ?_⟩) ?_ ?_
  rotate_left
  · intro w'; go_simp; with_reducible rfl
  rotate_left
  · simp only [Act.put, sa_, sz_, ss_, i64_w, i32_w]; rfl
  refine pure_ (i := 2) (N := some 18) (v := ?_) (a' := ?_) (bl 15 7) rfl rfl (any_of HT_.out (by kernel_rfl)) (fun _ _ _ h => h) (Or.inl ⟨by rfl, ?_⟩) ?_ ?_
  rotate_left
  · intro w'; go_simp; with_reducible rfl
  rotate_left
  · simp only [Act.put, sa_, sz_, ss_, i64_w, i32_w]; rfl
  refine pure_ (i := 3) (N := some 19) (v := ?_) (a' := ?_) (bl 15 15) rfl rfl (any_of HT_.out (by kernel_rfl)) (fun _ _ _ h => h) (Or.inl ⟨by rfl, ?_⟩) ?_ ?_
  rotate_left
  · intro w'; go_simp; with_reducible rfl
  rotate_left
  · simp only [Act.put, sa_, sz_, ss_, i64_w, i32_w]; rfl
  refine pure_ (i := 4) (N := some 20) (v := ?_) (a' := ?_) (bl 15 31) rfl rfl (any_of HT_.out (by kernel_rfl)) (fun _ _ _ h => h) (Or.inl ⟨by rfl, ?_⟩) ?_ ?_
  rotate_left
  · intro w'; go_simp; with_reducible rfl
  rotate_left
  · simp only [Act.put, sa_, sz_, ss_, i64_w, i32_w]; rfl
  refine pure_ (i := 5) (N := some 21) (v := ?_) (a' := ?_) (bl 15 63) rfl rfl (any_of HT_.out (by kernel_rfl)) (fun _ _ _ h => h) (Or.inl ⟨by rfl, ?_⟩) ?_ ?_
  rotate_left
  · intro w'; go_simp; with_reducible rfl
  rotate_left
  · simp only [Act.put, sa_, sz_, ss_, i64_w, i32_w]; rfl
  refine pure_ (i := 6) (N := some 22) (v := ?_) (a' := ?_) (bl 15 127) rfl rfl (any_of HT_.out (by kernel_rfl)) (fun _ _ _ h => h) (Or.inl ⟨by rfl, ?_⟩) ?_ ?_
  rotate_left
  · intro w'; go_simp; with_reducible rfl
  rotate_left
  · simp only [Act.put, sa_, sz_, ss_, i64_w, i32_w]; rfl
  refine pure_ (i := 9) (N := some 25) (v := ?_) (a' := ?_) (bl 15 639) rfl rfl (any_of HT_.out (by kernel_rfl)) (fun _ _ _ h => h) (Or.inl ⟨by rfl, ?_⟩) ?_ ?_
  rotate_left
  · intro w'; go_simp; with_reducible rfl
  rotate_left
  · simp only [Act.put, sa_, sz_, ss_, i64_w, i32_w]; rfl
  refine pure_ (i := 10) (N := some 26) (v := ?_) (a' := ?_) (bl 15 1663) rfl rfl (any_of HT_.out (by kernel_rfl)) (fun _ _ _ h => h) (Or.inl ⟨by rfl, ?_⟩) ?_ ?_
  rotate_left
  · intro w'; go_simp; with_reducible rfl
  rotate_left
  · simp only [Act.put, sa_, sz_, ss_, i64_w, i32_w]; rfl
  refine pure_ (i := 11) (N := some 27) (v := ?_) (a' := ?_) (bl 15 3711) rfl rfl (any_of HT_.out (by kernel_rfl)) (fun _ _ _ h => h) (Or.inl ⟨by rfl, ?_⟩) ?_ ?_
  rotate_left
  · intro w'; go_simp; with_reducible rfl
  rotate_left
  · simp only [Act.put, sa_, sz_, ss_, i64_w, i32_w]; rfl
  refine take_ (i := 7) (N := some 23) (v := ?_) (a' := ?_) (bl 15 3839) rfl rfl (take_ofW HT_.out HW_.out (by kernel_rfl)) (fun _ _ _ h => h) (Or.inl ⟨by rfl, ?_⟩) hHeld ?_ ?_
  rotate_left
  · rintro w' ⟨s0, s1, s2⟩
    go_simp
    with_reducible rfl
  rotate_left
  · simp only [Act.put, sa_, sz_, ss_, i64_w, i32_w]; rfl
  refine take_ (i := 12) (N := some 28) (v := ?_) (a' := ?_) (bl 15 7935) rfl rfl (take_ofW HT_.out HW_.out (by kernel_rfl)) (fun _ _ _ h => h) (Or.inl ⟨by rfl, ?_⟩) hHeld ?_ ?_
  rotate_left
  · rintro w' ⟨s0, s1, s2⟩
    go_simp
    with_reducible rfl
  rotate_left
  · simp only [Act.put, sa_, sz_, ss_, i64_w, i32_w]; rfl
  refine one_ (i := 8) (N := some 24) (bl 15 8191) rfl rfl (one_of HT_.out (by kernel_rfl)) (by decide) (fun K hK => ?_)
  refine goes_ Try.func44 (by kernel_rfl) rfl #[.slice A0 l0.length c0, .slice Ao13 x7_1.length co13, .int .i64 (wrap64 (x8_1 + 1)), .agg #[.int .i64 ((rd_T35 l1 x8_1).f0), .slice A437_1 ((rd_T35 l1 x8_1).f1).length c437_1]] (by rfl) rfl rfl (by (try simp only [List.map_toArray, List.map_cons, List.map_nil]); (rfl)) ?_
  with_reducible refine (notaryref47_Next.calls k1 _ _ l0 _ _ x7_1 (wrap64 (x8_1 + 1)) ((rd_T35 l1 x8_1).f0) _ _ ((rd_T35 l1 x8_1).f1) t438 _ ?side1 ?side2 ?side3 ?side4 ?side5 ?side6 A8.out).mono ?_
  (case side1 => exact Kd.C_below HR0.out HB.out)
  (case side2 => exact HC0.out)
  (case side3 => repeat ((exact (Kd.V_reads' HO_7.out).2.2)))
  (case side4 => exact (Kd.V_reads' HO_7.out).2.1)
  (case side5 => exact Kd.C_below HR437_1.out HB.out)
  (case side6 => exact HC437_1.out)
  rintro e w14 ⟨v439, rfl, ho0, hb⟩
  have HS2_ := (hb.cell (World.block_lt_of_cell? _ _ (hHeld.2.2))).trans (hHeld.2.2)
  refine ⟨_, rfl, ?_⟩
  have n0_ := Aside0.mk (Kd.V_elder' (by exact HO_2.out) (Kd.R_base ho0) hb)
  have n1_ := Aside0.mk (Kd.V_elder' (by exact HO_7.out) (Kd.R_base ho0) hb)
  have n2_ := Aside0.mk (Kd.V_elder' (by exact HL441_0.out) (Kd.R_base ho0) hb)
  have n3_ := Aside0.mk (Kd.R_lower (Kd.R_newM (M := fun k_ => (w.heap.size ≤ k_)) ho0 (below_size HB.out) (fun k_ h_ => h_)) (below_size HB.out))
  have n4_ := Aside0.mk (Kd.C_below (by repeat (with_reducible exact HR441_0.out)) hb)
  have n5_ := Aside0.mk (below_step HB.out hb)
  clear HO_2
  clear HO_7
  clear HL441_0
  clear HR441_0
  clear HB
  have HO_2 := n0_
  have HO_7 := n1_
  have HL441_0 := n2_
  have HO440 := n3_
  have HR441_0 := n4_
  have HB := n5_
  clear n0_ n1_ n2_ n3_ n4_ n5_
  (try clear hb)
  (skip)
  (skip)
  (skip)
  (try clear ho0)
  obtain ⟨Ao15, co15, eo15⟩ := Kd.R_slice HO440.out
  (subst eo15)
  refine hK.out _ _ ⟨(pw_cell_below HB.out hw437_0), (pw_cell_below HB.out hw437_1), HS2_⟩ (fun hHeld => ?_)
  clear hK K
  refine norm_ (a' := ?_) ?_ ?_
  rotate_left
  · show Act.put _ (some 24) _ = _
    simp only [Act.put, sa_, sz_, ss_, i64_w, i32_w]
    rfl
  refine one_ (i := 13) (N := some 29) (bl 15 16383) rfl rfl (one_of HT_.out (by kernel_rfl)) (by decide) (fun K hK => ?_)
  refine goes_ Try.func16 (by kernel_rfl) rfl #[.slice Ao15 t438.length co15, .slice A441_0 (rd_L3 l2 x8_1).length c441_0] (by rfl) rfl rfl (by (try simp only [List.map_toArray, List.map_cons, List.map_nil]); (rfl)) ?_
  with_reducible refine (notaryref01_Same.calls k1 _ _ t438 _ _ (rd_L3 l2 x8_1) true _ ?side1 ?side2 ?side3 ?side4 A10.out).mono ?_
  (case side1 => repeat ((exact (Kd.R_reads' HO440.out).2.2)))
  (case side2 => exact (Kd.R_reads' HO440.out).2.1)
  (case side3 => repeat ((exact (by repeat (with_reducible exact HR441_0.out)))))
  (case side4 => exact HC441_0.out)
  rintro e w' ⟨rfl, ⟨nd, rfl⟩⟩
  refine ⟨_, rfl, ?_⟩
  refine hK.out _ _ ⟨(pw_cell_below HB.out hw437_0), (pw_cell_below HB.out hw437_1), hHeld.2.2⟩ (fun hHeld => ?_)
  clear hK K
  refine norm_ (a' := ?_) ?_ ?_
  rotate_left
  · show Act.put _ (some 29) _ = _
    simp only [Act.put, sa_, sz_, ss_, i64_w, i32_w]
    rfl
  refine pure_ (i := 14) (N := some 30) (v := ?_) (a' := ?_) (bl 15 32767) rfl rfl (any_of HT_.out (by kernel_rfl)) (fun _ _ _ h => h) (Or.inl ⟨by rfl, ?_⟩) ?_ ?_
  rotate_left
  · intro w'; go_simp; with_reducible rfl
  rotate_left
  · simp only [Act.put, sa_, sz_, ss_, i64_w, i32_w]; rfl
  refine done_ (done_of HT_.out (by kernel_rfl)) ?_
  have p443 : 0 ≤ (x8_1 : Int) := of_decide_eq_true (by (with_reducible assumption))
  have q443 : x8_1 < (l2.length : Int) := of_decide_eq_true (by (with_reducible assumption))
  obtain ⟨ad443, A443_0, c443_0, e443, hx443_0, hl443_0, hi443_0⟩ := at_L3 (Kd.V_reads' HO_2.out).2.2 x8_1 p443 q443
  obtain rfl : ad441 = ad443 := (by injection e443)
  obtain ⟨ce443, hce443, hMe443, hcc443⟩ := Kd.V_get HO_2.out [] x8_1 p443 (by (exact q443))
  obtain ⟨ua443_0, uc443_0, rfl, ul443_0, ge443_0⟩ := Kd.FK_slice_open hMe443
  have hv443_0 := hcc443 0 _ rfl
  rw [Nat.add_zero, show ((Kd.slice 5 (Kd.int .u8))).sz = 1 from rfl, Nat.mul_one] at hv443_0
  replace hv443_0 := Option.some.inj (hv443_0.symm.trans hx443_0)
  injection hv443_0 with hva_ hvn_ hvc_
  rw [hva_] at ge443_0
  rw [hvc_] at ul443_0
  have HL443_0 := Aside0.mk (show Kd.V (Kd.int .u8) 5 _ w.heap.size _ _ (rd_L3 l2 x8_1) from Kd.V_mk ul443_0 ge443_0)
  clear hva_ hvn_ hvc_ ge443_0 ul443_0
  clear hcc443 hce443
  have HR443_0 := Aside0.mk hi443_0
  have HC443_0 := Aside0.mk hl443_0
  clear hi443_0 hl443_0
  replace p443 := eq_true p443
  replace q443 := eq_true q443
  try go_wp2
  go_roundg k1
  case measure => have := HK1.out; omega
  case rel => exact ⟨(rd_L3 l2 x8_1), (wrap64 (x8_1 + 1)), (by (rfl)), H', ⟨by have := HK1.out; omega⟩, ⟨by (with_reducible repeat (apply Kd.V_drewN)); exact Kd.V_mono HO_2.out (fun _ hk => hk.1)⟩, ⟨by (with_reducible repeat (apply Kd.V_drewN)); (exact Kd.V_mono HL441_0.out (fun _ hk => hk.1))⟩, ⟨by repeat (with_reducible first | exact HB.out | apply pw_below_drewN)⟩⟩/-! ### notaryref47_Entries: function 46 (given) -/
def notaryref47_Entries.f (k : Nat) (key log : List Int) : Option (List S35 × List Int × Int) :=
  (notaryref47_Frames.f k log).bind fun R => (notaryref47_Right.f k key R.1 R.2.1).bind fun n => if n < (R.1.length : Int) then some ([], [], 29) else if R.2.2 = 0 then (if R.1.length = 0 then (notaryref47_First.f).bind fun t => some (R.1, t, 0) else if R.1.length ≤ R.2.1.length then some (R.1, R.2.1.getD (R.1.length - 1) [], 0) else none) else some ([], [], R.2.2)
theorem notaryref47_Entries.mono (a0 a1 : List Int) (k : Nat) : LeO (notaryref47_Entries.f k a0 a1) (notaryref47_Entries.f (k + 1) a0 a1) :=
  LeO.bind (notaryref47_Frames.mono _ _) fun R => LeO.bind (notaryref47_Right.mono _ _ _ _) fun n => LeO.refl _
def notaryref47_Entries.Post (w : World) (r1 : List S35) (r2 : List Int) (r3 : Int) (e : Ending) (w' : World) : Prop :=
  ∃ v0_ v1_ : Value, e = .returned (.tuple #[v0_, v1_, .int .i64 r3]) ∧ Kd.V k35 35 w' w.heap.size (fun k_ => (w.heap.size ≤ k_)) v0_ r1 ∧ Kd.V (Kd.int .u8) 5 w' w.heap.size (fun k_ => (w.heap.size ≤ k_)) v1_ r2 ∧ Below w.heap.size w w'
set_option maxHeartbeats 16000000 in
set_option maxRecDepth 100000 in
theorem notaryref47_Entries.post (k : Nat) (A0 : Option Addr) (c0 : Nat) (l0 : List Int) (A1 : Option Addr) (c1 : Nat) (l1 : List Int) (r1 : List S35) (r2 : List Int) (r3 : Int) (w : World) (hr0 : Kd.C (Kd.int .u8) w A0 l0.length l0) (hc0 : l0.length ≤ c0) (hr1 : Kd.C (Kd.int .u8) w A1 l1.length l1) (hc1 : l1.length ≤ c1) (h : notaryref47_Entries.f k l0 l1 = some (r1, r2, r3)) :
    Calls Try.prog 46 #[.slice A0 l0.length c0, .slice A1 l1.length c1] w (notaryref47_Entries.Post w r1 r2 r3) := by
  unfold notaryref47_Entries.f at h
  obtain ⟨⟨f1, f2, f3⟩, hf, h⟩ := Option.bind_eq_some_iff.mp h
  obtain ⟨n, hn, h⟩ := Option.bind_eq_some_iff.mp h
  simp only at h hn
  have HR0 := Aside0.mk hr0
  have HC0 := Aside0.mk hc0
  have HR1 := Aside0.mk hr1
  have HC1 := Aside0.mk hc1
  have HF := Aside0.mk hf
  have HN := Aside0.mk hn
  clear hr0 hc0 hr1 hc1 hf hn
  by_cases d1 : n < (f1.length : Int)
  case pos =>
    rw [if_pos d1] at h
    obtain ⟨rfl, rfl, rfl⟩ : [] = r1 ∧ [] = r2 ∧ 29 = r3 := by simpa using h
    have d1b : decide (n < (f1.length : Int)) = true := decide_eq_true d1
    clear d1 h
    go_enter Try.func46, Try.ntmps46
    go_wp2_with (first | (go_at_call 61; (with_reducible refine (notaryref47_Frames.calls k A1 c1 l1 f1 f2 _ _ HR1.out HC1.out HF.out).mono ?_); rintro e w1 ⟨v7, v8, rfl, ho1, ho2, hb1⟩; (obtain ⟨A7, c7, rfl⟩ := Kd.R_slice (Kd.S_R ho1)); (obtain ⟨A8, c8, rfl⟩ := Kd.R_slice (Kd.S_R ho2)); have HS1 := Aside0.mk ho1; have HS2 := Aside0.mk ho2; have HB1 := Aside0.mk hb1; clear ho1 ho2 hb1) | (go_at_call 62; (with_reducible refine (notaryref47_Right.calls k A0 c0 l0 A7 c7 f1 (fun _ => True) A8 c8 f2 n _ (Kd.C_below HR0.out HB1.out) HC0.out (Kd.R_reads' (Kd.S_R HS1.out)).2.2 (Kd.R_reads' (Kd.S_R HS1.out)).2.1 (Kd.S_V HS2.out) HN.out).mono ?_); rintro e w2 ⟨rfl, hb2⟩; have HB12 := Aside0.mk hb2; (have HB2 : Aside0 (Below w.heap.size w w2) := ⟨HB1.out.trans (hb2.mono HB1.out.size)⟩); clear hb2))
    go_ret3
    exact ⟨_, _, rfl, ⟨_, _, rfl, Nat.le_refl _, fun W' _ => ⟨rfl, by simp, fun h => absurd h (Nat.lt_irrefl 0)⟩⟩, ⟨_, _, rfl, Nat.le_refl _, fun W' _ => ⟨rfl, by simp, fun h => absurd h (Nat.lt_irrefl 0)⟩⟩, by repeat (first | exact HB2.out | apply below_alloc)⟩
  rw [if_neg d1] at h
  have d1b : decide (n < (f1.length : Int)) = false := decide_eq_false d1
  clear d1
  by_cases d2 : f3 = 0
  case neg =>
    rw [if_neg d2] at h
    obtain ⟨rfl, rfl, rfl⟩ : [] = r1 ∧ [] = r2 ∧ f3 = r3 := by simpa using h
    have d2b : (f3 != 0) = true := by simpa using d2
    clear d2 h
    go_enter Try.func46, Try.ntmps46
    go_wp2_with (first | (go_at_call 61; (with_reducible refine (notaryref47_Frames.calls k A1 c1 l1 f1 f2 _ _ HR1.out HC1.out HF.out).mono ?_); rintro e w1 ⟨v7, v8, rfl, ho1, ho2, hb1⟩; (obtain ⟨A7, c7, rfl⟩ := Kd.R_slice (Kd.S_R ho1)); (obtain ⟨A8, c8, rfl⟩ := Kd.R_slice (Kd.S_R ho2)); have HS1 := Aside0.mk ho1; have HS2 := Aside0.mk ho2; have HB1 := Aside0.mk hb1; clear ho1 ho2 hb1) | (go_at_call 62; (with_reducible refine (notaryref47_Right.calls k A0 c0 l0 A7 c7 f1 (fun _ => True) A8 c8 f2 n _ (Kd.C_below HR0.out HB1.out) HC0.out (Kd.R_reads' (Kd.S_R HS1.out)).2.2 (Kd.R_reads' (Kd.S_R HS1.out)).2.1 (Kd.S_V HS2.out) HN.out).mono ?_); rintro e w2 ⟨rfl, hb2⟩; have HB12 := Aside0.mk hb2; (have HB2 : Aside0 (Below w.heap.size w w2) := ⟨HB1.out.trans (hb2.mono HB1.out.size)⟩); clear hb2))
    go_ret3
    exact ⟨_, _, rfl, ⟨_, _, rfl, Nat.le_refl _, fun W' _ => ⟨rfl, by simp, fun h => absurd h (Nat.lt_irrefl 0)⟩⟩, ⟨_, _, rfl, Nat.le_refl _, fun W' _ => ⟨rfl, by simp, fun h => absurd h (Nat.lt_irrefl 0)⟩⟩, by repeat (first | exact HB2.out | apply below_alloc)⟩
  subst d2
  rw [if_pos rfl] at h
  by_cases d3 : f1.length = 0
  case pos =>
    rw [if_pos d3] at h
    obtain ⟨t, ht, h⟩ := Option.bind_eq_some_iff.mp h
    obtain ⟨rfl, rfl, rfl⟩ : f1 = r1 ∧ t = r2 ∧ 0 = r3 := by simpa using h
    have HT := Aside0.mk ht
    have d3b : ((f1.length : Int) == 0) = true := by rw [d3]; rfl
    clear d3 h ht
    go_enter Try.func46, Try.ntmps46
    go_wp2_with (first | (go_at_call 61; (with_reducible refine (notaryref47_Frames.calls k A1 c1 l1 f1 f2 _ _ HR1.out HC1.out HF.out).mono ?_); rintro e w1 ⟨v7, v8, rfl, ho1, ho2, hb1⟩; (obtain ⟨A7, c7, rfl⟩ := Kd.R_slice (Kd.S_R ho1)); (obtain ⟨A8, c8, rfl⟩ := Kd.R_slice (Kd.S_R ho2)); have HS1 := Aside0.mk ho1; have HS2 := Aside0.mk ho2; have HB1 := Aside0.mk hb1; clear ho1 ho2 hb1) | (go_at_call 62; (with_reducible refine (notaryref47_Right.calls k A0 c0 l0 A7 c7 f1 (fun _ => True) A8 c8 f2 n _ (Kd.C_below HR0.out HB1.out) HC0.out (Kd.R_reads' (Kd.S_R HS1.out)).2.2 (Kd.R_reads' (Kd.S_R HS1.out)).2.1 (Kd.S_V HS2.out) HN.out).mono ?_); rintro e w2 ⟨rfl, hb2⟩; have HB12 := Aside0.mk hb2; (have HB2 : Aside0 (Below w.heap.size w w2) := ⟨HB1.out.trans (hb2.mono HB1.out.size)⟩); clear hb2) | (go_at_call 26; (with_reducible refine (notaryref47_First.calls t _ HT.out).mono ?_); rintro e w3 ⟨v5, rfl, ho3, hb3⟩; (obtain ⟨A9, c9, rfl⟩ := Kd.R_slice ho3); have HO3 := Aside0.mk ho3; have HB23 := Aside0.mk hb3; clear ho3 hb3))
    go_ret3
    exact ⟨_, _, rfl, Kd.V_mono (Kd.V_below (Kd.V_below (Kd.S_V (Kd.S_bound HS1.out)) HB12.out) HB23.out) (fun q hq => hq.2.1), Kd.V_mono (Kd.R_V (Kd.R_bound HO3.out)) (fun q hq => Nat.le_trans HB2.out.size hq.2.1), HB2.out.trans (HB23.out.mono HB2.out.size)⟩
  rw [if_neg d3] at h
  by_cases d4 : f1.length ≤ f2.length
  case neg => rw [if_neg d4] at h; exact absurd h (by simp)
  rw [if_pos d4] at h
  obtain ⟨rfl, hr2, rfl⟩ : f1 = r1 ∧ f2.getD (f1.length - 1) [] = r2 ∧ 0 = r3 := by simpa using h
  obtain ⟨j, hj⟩ : ∃ j : Nat, f1.length = j + 1 := ⟨f1.length - 1, by omega⟩
  have d3b : ((f1.length : Int) == 0) = false := by rw [hj]; simp; omega
  have HR2 : Aside0 (f2.getD j [] = r2) := ⟨by rw [hj] at hr2; simpa using hr2⟩
  have HJ := Aside0.mk hj
  have HJ2 : Aside0 (j < f2.length) := ⟨by omega⟩
  clear d3 d4 h hr2 hj
  go_enter Try.func46, Try.ntmps46
  go_wp2_with (first | (go_at_call 61; (with_reducible refine (notaryref47_Frames.calls k A1 c1 l1 f1 f2 _ _ HR1.out HC1.out HF.out).mono ?_); rintro e w1 ⟨v7, v8, rfl, ho1, ho2, hb1⟩; (obtain ⟨A7, c7, rfl⟩ := Kd.R_slice (Kd.S_R ho1)); (obtain ⟨A8, c8, rfl⟩ := Kd.R_slice (Kd.S_R ho2)); have HS1 := Aside0.mk ho1; have HS2 := Aside0.mk ho2; have HB1 := Aside0.mk hb1; clear ho1 ho2 hb1) | (go_at_call 62; (with_reducible refine (notaryref47_Right.calls k A0 c0 l0 A7 c7 f1 (fun _ => True) A8 c8 f2 n _ (Kd.C_below HR0.out HB1.out) HC0.out (Kd.R_reads' (Kd.S_R HS1.out)).2.2 (Kd.R_reads' (Kd.S_R HS1.out)).2.1 (Kd.S_V HS2.out) HN.out).mono ?_); rintro e w2 ⟨rfl, hb2⟩; have HB12 := Aside0.mk hb2; (have HB2 : Aside0 (Below w.heap.size w w2) := ⟨HB1.out.trans (hb2.mono HB1.out.size)⟩); clear hb2))
  obtain ⟨g8, cap8, e8, _, _, _⟩ := Kd.N_form (Kd.S_N HS2.out) (by have := HJ2.out; omega)
  injection e8 with e8a _ e8c
  subst e8a
  subst e8c
  obtain ⟨cs, hcl, hfk, hcell⟩ := Kd.N_get (Kd.S_N (Kd.S_bound HS2.out)) ([] : List Int) (j : Int) (by omega) (by have := HJ2.out; omega)
  rw [Int.toNat_natCast, HR2.out] at hfk
  obtain ⟨Ar, cr, rfl, hlr, hFr⟩ := Kd.FK_slice_open hfk
  have hc0' : w1.cell? ⟨g8, j, none⟩ = some (.slice Ar r2.length cr) := by
    have := hcell 0 _ rfl
    rw [add_plain] at this
    simpa [show (Kd.slice 5 (Kd.int .u8)).sz = 1 from rfl] using this
  have hcw : w2.cell? ⟨g8, j, none⟩ = some (.slice Ar r2.length cr) := pw_cell_below HB12.out hc0'
  have hmx := (Kd.R_reads' (Kd.S_R HS2.out)).2.2.2.1
  have hw : IntKind.i64.wrap ((f1.length : Int) - 1) = (j : Int) := by rw [HJ.out]; have := HJ2.out; exact (IntWalk.i64_in _ (by omega)).trans (by omega)
  have HFR := Aside0.mk hFr
  have HLR := Aside0.mk hlr
  have p1 : (j : Int) < (f2.length : Int) := by have := HJ2.out; omega
  clear hcell hfk hcl hc0' hFr hlr hmx
  go_quiet (fail)
  try go_wp2
  go_ret3
  have hbw := HB1.out.size
  exact ⟨_, _, rfl, Kd.V_drewN (Kd.V_mono (Kd.V_below (Kd.S_V (Kd.S_bound HS1.out)) HB12.out) (fun q hq => hq.2.1)) _, ⟨Ar, cr, rfl, HLR.out, Kd.F_drewN (Kd.F_mono (Kd.F_below HFR.out HB12.out) (fun q hq => hq.1.2.1)) _⟩, pw_below_drewN HB2.out _⟩
theorem notaryref47_Entries.calls (k : Nat) (A0 : Option Addr) (c0 : Nat) (l0 : List Int) (A1 : Option Addr) (c1 : Nat) (l1 : List Int) (r1 : List S35) (r2 : List Int) (r3 : Int) (w : World) (hr0 : Kd.C (Kd.int .u8) w A0 l0.length l0) (hc0 : l0.length ≤ c0) (hr1 : Kd.C (Kd.int .u8) w A1 l1.length l1) (hc1 : l1.length ≤ c1) (h : notaryref47_Entries.f k l0 l1 = some (r1, r2, r3)) :
    Calls Try.prog 46 #[.slice A0 l0.length c0, .slice A1 l1.length c1] w fun e w' => ∃ v0_ v1_ : Value, e = .returned (.tuple #[v0_, v1_, .int .i64 r3]) ∧ Kd.V k35 35 w' w.heap.size (fun k_ => (w.heap.size ≤ k_)) v0_ r1 ∧ Kd.V (Kd.int .u8) 5 w' w.heap.size (fun k_ => (w.heap.size ≤ k_)) v1_ r2 ∧ Below w.heap.size w w' :=
  (notaryref47_Entries.post k A0 c0 l0 A1 c1 l1 r1 r2 r3 w hr0 hc0 hr1 hc1 h).mono fun _ _ h => h

/-! ### notaryref47_Verify: function 22 -/
def notaryref47_Verify.f (k : Nat) (l0 : List Int) (l1 : List Int) (a2 : Int) (l3 : List Int) : Option (Bool) := (notaryref47_Entries.f k l0 l1).bind fun bt444 => (if bt444.2.2 = 0 then (if (bt444.1.length : Int) = a2 then ((notaryref01_Same.f k bt444.2.1 l3).bind fun t451 => (some t451)) else (some false)) else (some false))
theorem notaryref47_Verify.mono : ∀ a0 a1 a2 a3 k, LeO (notaryref47_Verify.f k a0 a1 a2 a3) (notaryref47_Verify.f (k + 1) a0 a1 a2 a3) := by
  intro a0 a1 a2 a3 k
  unfold notaryref47_Verify.f
  repeat' first | (with_reducible exact notaryref01_Same.mono _ _ _) | (with_reducible exact notaryref47_Entries.mono _ _ _) | (with_reducible exact LeO.refl _) | (with_reducible refine LeO.ite ?_ ?_) | (with_reducible refine LeO.bind ?_ (fun _ => ?_))
set_option maxHeartbeats 8000000 in
set_option maxRecDepth 100000 in
theorem notaryref47_Verify.calls (k : Nat) (A0 : Option Addr) (c0 : Nat) (l0 : List Int) (A1 : Option Addr) (c1 : Nat) (l1 : List Int) (a2 : Int) (A3 : Option Addr) (c3 : Nat) (l3 : List Int) (r : Bool) (w : World) (hr0 : Kd.C (Kd.int .u8) w A0 l0.length l0) (hc0 : l0.length ≤ c0) (hr1 : Kd.C (Kd.int .u8) w A1 l1.length l1) (hc1 : l1.length ≤ c1) (hr3 : Kd.C (Kd.int .u8) w A3 l3.length l3) (hc3 : l3.length ≤ c3) (h : notaryref47_Verify.f k l0 l1 a2 l3 = some r) :
    Calls Try.prog 22 #[.slice A0 l0.length c0, .slice A1 l1.length c1, .int .i64 a2, .slice A3 l3.length c3] w fun e w' => e = .returned (.bool r) ∧ Below w.heap.size w w' := by
  have HR0 := Aside0.mk hr0
  have HC0 := Aside0.mk hc0
  clear hr0 hc0
  have HR1 := Aside0.mk hr1
  have HC1 := Aside0.mk hc1
  clear hr1 hc1
  have HR3 := Aside0.mk hr3
  have HC3 := Aside0.mk hc3
  clear hr3 hc3
  have HB := Aside0.mk (Below.refl w.heap.size w)
  have H : ((notaryref47_Entries.f k l0 l1).bind fun bt444 => (if bt444.2.2 = 0 then (if (bt444.1.length : Int) = a2 then ((notaryref01_Same.f k bt444.2.1 l3).bind fun t451 => (some t451)) else (some false)) else (some false))) = some r := h
  clear h
  replace H := Option.bind_eq_some_iff.mp H
  obtain ⟨⟨t444, t447, t450⟩, A50, H⟩ := H
  replace H : (if t450 = 0 then (if (t444.length : Int) = a2 then ((notaryref01_Same.f k t447 l3).bind fun t451 => (some t451)) else (some false)) else (some false)) = some r := H
  have A5 := Aside0.mk A50
  clear A50
  by_cases c6 : t450 = 0
  rotate_left
  · rw [if_neg c6] at H
    have c6b0 : (t450 == 0) = false := beq_eq_false_iff_ne.mpr c6
    have c6b1 : (t450 != 0) = true := bne_iff_ne.mpr c6
    obtain rfl := Option.some.inj H
    go_enter Try.func22, Try.ntmps22
    go_wp2_with ((((with_reducible refine gate_callee (f := 46) rfl ?_); refine goesL_ (some 15) rfl rfl Try.func46 (by kernel_rfl) rfl #[.slice A0 l0.length c0, .slice A1 l1.length c1] rfl (by (try simp only [List.map_toArray, List.map_cons, List.map_nil]); (rfl)) ?_; (with_reducible refine (notaryref47_Entries.calls k _ _ l0 _ _ l1 t444 t447 t450 _ ?side1 ?side2 ?side3 ?side4 A5.out).mono ?_); (case side1 => repeat (exact HR0.out)); (case side2 => exact HC0.out); (case side3 => repeat (exact HR1.out)); (case side4 => exact HC1.out); rintro e w14 ⟨v445, v448, rfl, ho0, ho1, hb⟩; refine ⟨_, rfl, ?_⟩; have n0_ := Aside0.mk (Kd.V_lower (Kd.V_mono (ok' := fun k_ => True) ho0 (fun k_ hk_ => trivial)) (below_size HB.out)); have n1_ := Aside0.mk (Kd.V_lower (Kd.V_mono (ok' := fun k_ => True) ho1 (fun k_ hk_ => trivial)) (below_size HB.out)); have n2_ := Aside0.mk (below_step HB.out hb); clear HB; have HO446 := n0_; have HO449 := n1_; have HB := n2_; clear n0_ n1_ n2_; (try clear hb); (try clear ho0); (try clear ho1))))
    go_ret
    exact ⟨by (rfl), HB.out⟩

  rw [if_pos c6] at H
  have c6b0 : (t450 == 0) = true := beq_iff_eq.mpr c6
  have c6b1 : (t450 != 0) = false := bne_eq_false_iff_eq.mpr c6
  clear c6
  by_cases c7 : (t444.length : Int) = a2
  rotate_left
  · rw [if_neg c7] at H
    have c7b0 : ((t444.length : Int) == a2) = false := beq_eq_false_iff_ne.mpr c7
    have c7b1 : ((t444.length : Int) != a2) = true := bne_iff_ne.mpr c7
    obtain rfl := Option.some.inj H
    go_enter Try.func22, Try.ntmps22
    go_wp2_with ((((with_reducible refine gate_callee (f := 46) rfl ?_); refine goesL_ (some 15) rfl rfl Try.func46 (by kernel_rfl) rfl #[.slice A0 l0.length c0, .slice A1 l1.length c1] rfl (by (try simp only [List.map_toArray, List.map_cons, List.map_nil]); (rfl)) ?_; (with_reducible refine (notaryref47_Entries.calls k _ _ l0 _ _ l1 t444 t447 t450 _ ?side1 ?side2 ?side3 ?side4 A5.out).mono ?_); (case side1 => repeat (exact HR0.out)); (case side2 => exact HC0.out); (case side3 => repeat (exact HR1.out)); (case side4 => exact HC1.out); rintro e w12 ⟨v445, v448, rfl, ho0, ho1, hb⟩; refine ⟨_, rfl, ?_⟩; have n0_ := Aside0.mk (Kd.V_lower (Kd.V_mono (ok' := fun k_ => True) ho0 (fun k_ hk_ => trivial)) (below_size HB.out)); have n1_ := Aside0.mk (Kd.V_lower (Kd.V_mono (ok' := fun k_ => True) ho1 (fun k_ hk_ => trivial)) (below_size HB.out)); have n2_ := Aside0.mk (below_step HB.out hb); clear HB; have HO446 := n0_; have HO449 := n1_; have HB := n2_; clear n0_ n1_ n2_; (try clear hb); (try clear ho0); (try clear ho1); obtain ⟨Ao13, co13, eo13⟩ := Kd.V_slice HO446.out; subst eo13)))
    go_ret
    exact ⟨by (rfl), HB.out⟩
  rw [if_pos c7] at H
  have c7b0 : ((t444.length : Int) == a2) = true := beq_iff_eq.mpr c7
  have c7b1 : ((t444.length : Int) != a2) = false := bne_eq_false_iff_eq.mpr c7
  clear c7
  replace H := Option.bind_eq_some_iff.mp H
  obtain ⟨t451, A80, H⟩ := H
  replace H : (some t451) = some r := H
  have A8 := Aside0.mk A80
  clear A80
  obtain rfl := Option.some.inj H
  go_enter Try.func22, Try.ntmps22
  go_wp2_with (first | ((with_reducible refine gate_callee (f := 46) rfl ?_); refine goesL_ (some 15) rfl rfl Try.func46 (by kernel_rfl) rfl #[.slice A0 l0.length c0, .slice A1 l1.length c1] rfl (by (try simp only [List.map_toArray, List.map_cons, List.map_nil]); (rfl)) ?_; (with_reducible refine (notaryref47_Entries.calls k _ _ l0 _ _ l1 t444 t447 t450 _ ?side1 ?side2 ?side3 ?side4 A5.out).mono ?_); (case side1 => repeat (exact HR0.out)); (case side2 => exact HC0.out); (case side3 => repeat (exact HR1.out)); (case side4 => exact HC1.out); rintro e w9 ⟨v445, v448, rfl, ho0, ho1, hb⟩; refine ⟨_, rfl, ?_⟩; have n0_ := Aside0.mk (Kd.V_lower (Kd.V_mono (ok' := fun k_ => True) ho0 (fun k_ hk_ => trivial)) (below_size HB.out)); have n1_ := Aside0.mk (Kd.V_lower (Kd.V_mono (ok' := fun k_ => True) ho1 (fun k_ hk_ => trivial)) (below_size HB.out)); have n2_ := Aside0.mk (below_step HB.out hb); clear HB; have HO446 := n0_; have HO449 := n1_; have HB := n2_; clear n0_ n1_ n2_; (try clear hb); (try clear ho0); (try clear ho1); obtain ⟨Ao10, co10, eo10⟩ := Kd.V_slice HO446.out; subst eo10; obtain ⟨Ao11, co11, eo11⟩ := Kd.V_slice HO449.out; subst eo11) | (go_at_call 16; (with_reducible refine (notaryref01_Same.calls k _ _ t447 _ _ l3 t451 _ ?side1 ?side2 ?side3 ?side4 A8.out).mono ?_); (case side1 => repeat ((exact (Kd.V_reads' HO449.out).2.2))); (case side2 => exact (Kd.V_reads' HO449.out).2.1); (case side3 => exact Kd.C_below HR3.out HB.out); (case side4 => exact HC3.out); rintro e w' ⟨rfl, ⟨nd, rfl⟩⟩))
  go_ret
  exact ⟨by (rfl), by repeat (with_reducible first | exact HB.out | apply pw_below_drewN)⟩
-- NOT PRINTED: function 47 (device_Device_Sync)

-- NOT PRINTED: function 24 (journal_Journal_Sync)

-- NOT PRINTED: function 25 (journal_Journal_Entries)

-- NOT PRINTED: function 30 (device_Device_Crash)

/-! ### notaryref46_Same: function 51 -/
def notaryref46_Same.f (k : Nat) (a0_0 : Int) (l0_1 : List Int) (a1_0 : Int) (l1_1 : List Int) : Option (Bool) := if a0_0 = a1_0 then ((notaryref01_Same.f k l0_1 l1_1).bind fun t454 => (some t454)) else (some false)
theorem notaryref46_Same.mono : ∀ a0 a1 a2 a3 k, LeO (notaryref46_Same.f k a0 a1 a2 a3) (notaryref46_Same.f (k + 1) a0 a1 a2 a3) := by
  intro a0 a1 a2 a3 k
  unfold notaryref46_Same.f
  repeat' first | (with_reducible exact notaryref01_Same.mono _ _ _) | (with_reducible exact LeO.refl _) | (with_reducible refine LeO.ite ?_ ?_) | (with_reducible refine LeO.bind ?_ (fun _ => ?_))
set_option maxHeartbeats 8000000 in
set_option maxRecDepth 100000 in
theorem notaryref46_Same.calls (k : Nat) (a0_0 : Int) (A0_1 : Option Addr) (c0_1 : Nat) (l0_1 : List Int) (a1_0 : Int) (A1_1 : Option Addr) (c1_1 : Nat) (l1_1 : List Int) (r : Bool) (w : World) (hr0_1 : Kd.C (Kd.int .u8) w A0_1 l0_1.length l0_1) (hc0_1 : l0_1.length ≤ c0_1) (hr1_1 : Kd.C (Kd.int .u8) w A1_1 l1_1.length l1_1) (hc1_1 : l1_1.length ≤ c1_1) (h : notaryref46_Same.f k a0_0 l0_1 a1_0 l1_1 = some r) :
    Calls Try.prog 51 #[.agg #[.int .i64 a0_0, .slice A0_1 l0_1.length c0_1], .agg #[.int .i64 a1_0, .slice A1_1 l1_1.length c1_1]] w fun e w' => e = .returned (.bool r) ∧ Below w.heap.size w w' := by
  have hu35 := Try.underlying35
  have HR0_1 := Aside0.mk hr0_1
  have HC0_1 := Aside0.mk hc0_1
  clear hr0_1 hc0_1
  have HR1_1 := Aside0.mk hr1_1
  have HC1_1 := Aside0.mk hc1_1
  clear hr1_1 hc1_1
  have HB := Aside0.mk (Below.refl w.heap.size w)
  have H : (if a0_0 = a1_0 then ((notaryref01_Same.f k l0_1 l1_1).bind fun t454 => (some t454)) else (some false)) = some r := h
  clear h
  by_cases c3 : a0_0 = a1_0
  rotate_left
  · rw [if_neg c3] at H
    have c3b0 : (a0_0 == a1_0) = false := beq_eq_false_iff_ne.mpr c3
    have c3b1 : (a0_0 != a1_0) = true := bne_iff_ne.mpr c3
    obtain rfl := Option.some.inj H
    go_enter Try.func51, Try.ntmps51
    go_wp2_with (first | ((with_reducible refine gate_dst (N := 2) rfl ?_); refine box_event ?hg (N := 2) ?hd (cs := #[.int .i64 a0_0, .slice A0_1 l0_1.length c0_1]) (t := 35) ?hr ?_; (case hd => rfl); (case hg => rfl); (case hr => (go_simp; done)); intro gb452 hg w10 hbox hb; have n0_ := Aside0.mk (below_step HB.out hb); have n1_ := Aside0.mk (hbox); have n2_ := Aside0.mk ((by rw [hg]; exact (below_size HB.out) : w.heap.size ≤ gb452)); have n3_ := Aside0.mk ((by rw [hg]; exact (below_size HB.out) : w.heap.size ≤ gb452)); clear HB; have HB := n0_; have BK452 := n1_; have GW452 := n2_; have GE452 := n3_; clear n0_ n1_ n2_ n3_; clear hb hbox hg) | ((with_reducible refine gate_dst (N := 3) rfl ?_); refine box_event ?hg (N := 3) ?hd (cs := #[.int .i64 a1_0, .slice A1_1 l1_1.length c1_1]) (t := 35) ?hr ?_; (case hd => rfl); (case hg => rfl); (case hr => (go_simp; done)); intro gb453 hg w11 hbox hb; have n0_ := Aside0.mk (blk_below (g := gb452) (o := .cells #[.int .i64 a0_0, .slice A0_1 l0_1.length c0_1] 35 (0, 0)) (by exact BK452.out) hb); have n1_ := Aside0.mk (below_step HB.out hb); have n2_ := Aside0.mk (hbox); have n3_ := Aside0.mk ((by rw [hg]; exact (below_size HB.out) : w.heap.size ≤ gb453)); have n4_ := Aside0.mk ((by rw [hg]; exact (below_size HB.out) : w.heap.size ≤ gb453)); have n5_ := Aside0.mk ((by rw [hg]; exact Nat.ne_of_lt (blk_lt (g := gb452) (o := .cells #[.int .i64 a0_0, .slice A0_1 l0_1.length c0_1] 35 (0, 0)) (by exact BK452.out)) : gb452 ≠ gb453)); have n6_ := Aside0.mk ((by rw [hg]; exact Nat.ne_of_gt (blk_lt (g := gb452) (o := .cells #[.int .i64 a0_0, .slice A0_1 l0_1.length c0_1] 35 (0, 0)) (by exact BK452.out)) : gb453 ≠ gb452)); clear BK452; clear HB; have BK452 := n0_; have HB := n1_; have BK453 := n2_; have GW453 := n3_; have GE453 := n4_; have NB452_453 := n5_; have NB453_452 := n6_; clear n0_ n1_ n2_ n3_ n4_ n5_ n6_; clear hb hbox hg; have hnb12 := NB452_453.out; have hnc12 := NB453_452.out; have hcz13_0 : w11.cell? ⟨gb452, 0, none⟩ = some (.int .i64 a0_0) := (blk_cell BK452.out 0).trans rfl; have hcz13_1 : w11.cell? ⟨gb452, 1, none⟩ = some (.slice A0_1 l0_1.length c0_1) := (blk_cell BK452.out 1).trans rfl; have hfz13_0 := blk_frozen BK452.out 0; have hfz13_1 := blk_frozen BK452.out 1; have hcz14_0 : w11.cell? ⟨gb453, 0, none⟩ = some (.int .i64 a1_0) := (blk_cell BK453.out 0).trans rfl; have hcz14_1 : w11.cell? ⟨gb453, 1, none⟩ = some (.slice A1_1 l1_1.length c1_1) := (blk_cell BK453.out 1).trans rfl; have hfz14_0 := blk_frozen BK453.out 0; have hfz14_1 := blk_frozen BK453.out 1))
    go_ret
    exact ⟨by (rfl), HB.out⟩

  rw [if_pos c3] at H
  have c3b0 : (a0_0 == a1_0) = true := beq_iff_eq.mpr c3
  have c3b1 : (a0_0 != a1_0) = false := bne_eq_false_iff_eq.mpr c3
  clear c3
  replace H := Option.bind_eq_some_iff.mp H
  obtain ⟨t454, A40, H⟩ := H
  replace H : (some t454) = some r := H
  have A4 := Aside0.mk A40
  clear A40
  obtain rfl := Option.some.inj H
  go_enter Try.func51, Try.ntmps51
  go_wp2_with (first | ((with_reducible refine gate_dst (N := 2) rfl ?_); refine box_event ?hg (N := 2) ?hd (cs := #[.int .i64 a0_0, .slice A0_1 l0_1.length c0_1]) (t := 35) ?hr ?_; (case hd => rfl); (case hg => rfl); (case hr => (go_simp; done)); intro gb452 hg w5 hbox hb; have n0_ := Aside0.mk (below_step HB.out hb); have n1_ := Aside0.mk (hbox); have n2_ := Aside0.mk ((by rw [hg]; exact (below_size HB.out) : w.heap.size ≤ gb452)); have n3_ := Aside0.mk ((by rw [hg]; exact (below_size HB.out) : w.heap.size ≤ gb452)); clear HB; have HB := n0_; have BK452 := n1_; have GW452 := n2_; have GE452 := n3_; clear n0_ n1_ n2_ n3_; clear hb hbox hg) | ((with_reducible refine gate_dst (N := 3) rfl ?_); refine box_event ?hg (N := 3) ?hd (cs := #[.int .i64 a1_0, .slice A1_1 l1_1.length c1_1]) (t := 35) ?hr ?_; (case hd => rfl); (case hg => rfl); (case hr => (go_simp; done)); intro gb453 hg w6 hbox hb; have n0_ := Aside0.mk (blk_below (g := gb452) (o := .cells #[.int .i64 a0_0, .slice A0_1 l0_1.length c0_1] 35 (0, 0)) (by exact BK452.out) hb); have n1_ := Aside0.mk (below_step HB.out hb); have n2_ := Aside0.mk (hbox); have n3_ := Aside0.mk ((by rw [hg]; exact (below_size HB.out) : w.heap.size ≤ gb453)); have n4_ := Aside0.mk ((by rw [hg]; exact (below_size HB.out) : w.heap.size ≤ gb453)); have n5_ := Aside0.mk ((by rw [hg]; exact Nat.ne_of_lt (blk_lt (g := gb452) (o := .cells #[.int .i64 a0_0, .slice A0_1 l0_1.length c0_1] 35 (0, 0)) (by exact BK452.out)) : gb452 ≠ gb453)); have n6_ := Aside0.mk ((by rw [hg]; exact Nat.ne_of_gt (blk_lt (g := gb452) (o := .cells #[.int .i64 a0_0, .slice A0_1 l0_1.length c0_1] 35 (0, 0)) (by exact BK452.out)) : gb453 ≠ gb452)); clear BK452; clear HB; have BK452 := n0_; have HB := n1_; have BK453 := n2_; have GW453 := n3_; have GE453 := n4_; have NB452_453 := n5_; have NB453_452 := n6_; clear n0_ n1_ n2_ n3_ n4_ n5_ n6_; clear hb hbox hg; have hnb7 := NB452_453.out; have hnc7 := NB453_452.out; have hcz8_0 : w6.cell? ⟨gb452, 0, none⟩ = some (.int .i64 a0_0) := (blk_cell BK452.out 0).trans rfl; have hcz8_1 : w6.cell? ⟨gb452, 1, none⟩ = some (.slice A0_1 l0_1.length c0_1) := (blk_cell BK452.out 1).trans rfl; have hfz8_0 := blk_frozen BK452.out 0; have hfz8_1 := blk_frozen BK452.out 1; have hcz9_0 : w6.cell? ⟨gb453, 0, none⟩ = some (.int .i64 a1_0) := (blk_cell BK453.out 0).trans rfl; have hcz9_1 : w6.cell? ⟨gb453, 1, none⟩ = some (.slice A1_1 l1_1.length c1_1) := (blk_cell BK453.out 1).trans rfl; have hfz9_0 := blk_frozen BK453.out 0; have hfz9_1 := blk_frozen BK453.out 1) | (go_at_call 16; (with_reducible refine (notaryref01_Same.calls k _ _ l0_1 _ _ l1_1 t454 _ ?side1 ?side2 ?side3 ?side4 A4.out).mono ?_); (case side1 => exact Kd.C_below HR0_1.out HB.out); (case side2 => exact HC0_1.out); (case side3 => exact Kd.C_below HR1_1.out HB.out); (case side4 => exact HC1_1.out); rintro e w' ⟨rfl, ⟨nd, rfl⟩⟩))
  go_ret
  exact ⟨by (rfl), by repeat (with_reducible first | exact HB.out | apply pw_below_drewN)⟩
end Go.Proofs.Ytogjnipojakfjaa.PJr
