-- SLIM: a printed text of which the unused ways are cut off
-- PRINTED by print.py (a twelfth state) out of the translation. Not trusted: Lean checks it.
import Derived.Test.YtogjnipojakfjaaPJrx0
import Derived.Test.YtogjnipojakfjaaPJrx8
namespace Go.Proofs.Ytogjnipojakfjaa.PJr
open Go.RowKit Go.Proofs.YtogjnipojakfjaaW.PrintWords Go.Proofs.YtogjnipojakfjaaW.PrintLast Go.Proofs.YtogjnipojakfjaaW.PrintMore
attribute [local go_sem] max2_int min2_int max_two min_two max_three min_three max_four min_four   -- for this text's walks alone
set_option linter.unusedVariables false
set_option linter.unusedSimpArgs false

/-! ### notaryref02_Root: function 86 -/
mutual
def notaryref02_Root.j0 : Nat → Int → List Int → Int → Int → Option (Int)
  | 0, _, _, _, _ => none
  | k + 1, x1, x5, x6, x7 => notaryref02_Root.l0 k x1 x5 x6 x7
def notaryref02_Root.l0 : Nat → Int → List Int → Int → Int → Option (Int)
  | 0, _, _, _, _ => none
  | k + 1, x1, x5, x6, x7 => if x7 > 0 then ((notaryref02_Power.f k (IntKind.u64.wrap (x6 + x7)) x1).bind fun t296 => ((notaryref02_Most.f k t296 x5).bind fun t299 => (if t299 = true then (notaryref02_Root.l0 k x1 x5 (IntKind.u64.wrap (x6 + x7)) (IntKind.u64.wrap (Int.tdiv x7 2))) else (notaryref02_Root.l0 k x1 x5 x6 (IntKind.u64.wrap (Int.tdiv x7 2)))))) else (some x6)
end
def notaryref02_Root.f (k : Nat) (a0 : Int) (a1 : Int) : Option (Int) := (notaryref02_Clip.f a0).bind fun t292 => ((notaryref02_Shifted.f t292 (wrap64 (2 * a1))).bind fun t293 => (if a1 = 3 then (notaryref02_Root.j0 k a1 t293 0 274877906944) else (notaryref02_Root.j0 k a1 t293 0 2199023255552)))
theorem notaryref02_Root.mono_l : ∀ k, (∀ y0 y1 y2 y3, LeO (notaryref02_Root.j0 k y0 y1 y2 y3) (notaryref02_Root.j0 (k + 1) y0 y1 y2 y3)) ∧ (∀ y0 y1 y2 y3, LeO (notaryref02_Root.l0 k y0 y1 y2 y3) (notaryref02_Root.l0 (k + 1) y0 y1 y2 y3))
  | 0 => ⟨fun _ _ _ _ r h => by simp [notaryref02_Root.j0] at h, fun _ _ _ _ r h => by simp [notaryref02_Root.l0] at h⟩
  | k + 1 => by
    obtain ⟨ih0, ih1⟩ := notaryref02_Root.mono_l k
    refine ⟨?_, ?_⟩
    · intro y0 y1 y2 y3
      unfold notaryref02_Root.j0
      repeat' first | (with_reducible exact ih1 _ _ _ _)
    · intro y0 y1 y2 y3
      unfold notaryref02_Root.l0
      repeat' first | (with_reducible exact ih1 _ _ _ _) | (with_reducible exact notaryref02_Most.mono _ _ _) | (with_reducible exact notaryref02_Power.mono _ _ _) | (with_reducible exact LeO.refl _) | (with_reducible refine LeO.ite ?_ ?_) | (with_reducible refine LeO.bind ?_ (fun _ => ?_))
theorem notaryref02_Root.mono : ∀ a0 a1 k, LeO (notaryref02_Root.f k a0 a1) (notaryref02_Root.f (k + 1) a0 a1) := by
  intro a0 a1 k
  obtain ⟨ih0, ih1⟩ := notaryref02_Root.mono_l k
  unfold notaryref02_Root.f
  repeat' first | (with_reducible exact ih0 _ _ _ _) | (with_reducible exact LeO.refl _) | (with_reducible refine LeO.ite ?_ ?_) | (with_reducible refine LeO.bind ?_ (fun _ => ?_))
set_option maxHeartbeats 8000000 in
set_option maxRecDepth 100000 in
theorem notaryref02_Root.calls (k : Nat) (a0 : Int) (a1 : Int) (r : Int) (w : World) (h : notaryref02_Root.f k a0 a1 = some r) :
    Calls Try.prog 86 #[.int .i64 a0, .int .i64 a1] w fun e w' => e = .returned (.int .u64 r) ∧ Below w.heap.size w w' := by
  have HB := Aside0.mk (Below.refl w.heap.size w)
  have H : ((notaryref02_Clip.f a0).bind fun t292 => ((notaryref02_Shifted.f t292 (wrap64 (2 * a1))).bind fun t293 => (if a1 = 3 then (notaryref02_Root.j0 k a1 t293 0 274877906944) else (notaryref02_Root.j0 k a1 t293 0 2199023255552)))) = some r := h
  clear h
  replace H := Option.bind_eq_some_iff.mp H
  obtain ⟨t292, A30, H⟩ := H
  replace H : ((notaryref02_Shifted.f t292 (wrap64 (2 * a1))).bind fun t293 => (if a1 = 3 then (notaryref02_Root.j0 k a1 t293 0 274877906944) else (notaryref02_Root.j0 k a1 t293 0 2199023255552))) = some r := H
  have A3 := Aside0.mk A30
  clear A30
  replace H := Option.bind_eq_some_iff.mp H
  obtain ⟨t293, A40, H⟩ := H
  replace H : (if a1 = 3 then (notaryref02_Root.j0 k a1 t293 0 274877906944) else (notaryref02_Root.j0 k a1 t293 0 2199023255552)) = some r := H
  have A4 := Aside0.mk A40
  clear A40
  have HC5 := Aside0.mk H
  clear H
  go_enter Try.func86, Try.ntmps86
  go_upto_if 14 with (first | ((with_reducible refine gate_callee (f := 98) rfl ?_); refine goesL_ (some 9) rfl rfl Try.func98 (by kernel_rfl) rfl #[.int .i64 a0] rfl (by (try simp only [List.map_toArray, List.map_cons, List.map_nil]); (rfl)) ?_; (with_reducible refine (notaryref02_Clip.calls a0 t292 _ A3.out).mono ?_); rintro e w' ⟨rfl, ⟨nd, rfl⟩⟩; refine ⟨_, rfl, ?_⟩) | ((with_reducible refine gate_callee (f := 97) rfl ?_); refine goesL_ (some 12) rfl rfl Try.func97 (by kernel_rfl) rfl #[.int .u64 t292, .int .i64 (wrap64 (2 * a1))] rfl (by (try simp only [List.map_toArray, List.map_cons, List.map_nil]); (rfl)) ?_; (with_reducible refine (notaryref02_Shifted.calls t292 (wrap64 (2 * a1)) t293 _ A4.out).mono ?_); rintro e w6 ⟨v294, rfl, ho0, hb⟩; refine ⟨_, rfl, ?_⟩; have n0_ := Aside0.mk (Kd.R_lower ho0 (below_size (by repeat (with_reducible first | exact HB.out | apply pw_below_drewN)))); have n1_ := Aside0.mk (below_step (by repeat (with_reducible first | exact HB.out | apply pw_below_drewN)) hb); clear HB; have HO295 := n0_; have HB := n1_; clear n0_ n1_; (try clear hb); (try clear ho0)))
  (skip)
  go_cut [7] (fun v7 wc => ∃ (kq : Nat) (x7_4 : Int), v7 = .int .u64 x7_4 ∧ Aside0 (notaryref02_Root.j0 kq a1 t293 0 x7_4 = some r) ∧ Aside0 (kq ≤ k) ∧ Aside0 (Kd.R (Kd.int .u64) 92 wc w.heap.size (fun _ => True) v294 t293) ∧ Aside0 (Below w.heap.size w wc))
  case first =>
    have H := HC5.out
    clear HC5
    by_cases c7 : a1 = 3
    rotate_left
    · rw [if_neg c7] at H
      have c7b0 : (a1 == 3) = false := beq_eq_false_iff_ne.mpr c7
      have c7b1 : (a1 != 3) = true := bne_iff_ne.mpr c7
      (rw [c7b0])
      have H' := Aside0.mk H
      clear H
      go_wp2
      go_meet
      case rel => exact ⟨_, (2199023255552), (by (rfl)), H', ⟨by (omega)⟩, ⟨by exact HO295.out⟩, ⟨HB.out⟩⟩
    rw [if_pos c7] at H
    have c7b0 : (a1 == 3) = true := beq_iff_eq.mpr c7
    have c7b1 : (a1 != 3) = false := bne_eq_false_iff_eq.mpr c7
    clear c7
    (rw [c7b0])
    have H' := Aside0.mk H
    clear H
    go_wp2
    go_meet
    case rel => exact ⟨_, (274877906944), (by (rfl)), H', ⟨by (omega)⟩, ⟨by exact HO295.out⟩, ⟨HB.out⟩⟩
  clear HC5
  obtain ⟨kq, x7_4, rfl, HA, HJ4, HO_5, HB⟩ := hcut
  rcases kq with _ | kj4
  · exact absurd HA.out (by simp [notaryref02_Root.j0])
  have H := HA.out
  clear HA
  simp only [notaryref02_Root.j0] at H
  have H' := Aside0.mk H
  clear H
  go_wp2
  go_loopg [6, 7] kj4 (fun kq v6 v7 w' => ∃ (x6_2 : Int) (x7_2 : Int), v6 = .int .u64 x6_2 ∧ v7 = .int .u64 x7_2 ∧ Aside0 (notaryref02_Root.l0 kq a1 t293 x6_2 x7_2 = some r) ∧ Aside0 (kq ≤ kj4) ∧ Aside0 (Kd.R (Kd.int .u64) 92 w' w.heap.size (fun _ => True) v294 t293) ∧ Aside0 (Below w.heap.size w w'))
  case atStart => exact ⟨(0), (x7_4), (by (rfl)), (by (rfl)), H', ⟨Nat.le_refl _⟩, ⟨by exact HO_5.out⟩, ⟨HB.out⟩⟩
  clear H'
  obtain ⟨x6_2, x7_2, rfl, rfl, HA, HK2, HO_5, HB⟩ := hrel
  rcases gk with _ | k2
  · exact absurd HA.out (by simp [notaryref02_Root.l0])
  have H := HA.out
  clear HA
  simp only [notaryref02_Root.l0] at H
  by_cases c8 : x7_2 > 0
  rotate_left
  · rw [if_neg c8] at H
    have c8b0 : decide (0 < x7_2) = false := decide_eq_false c8
    clear c8
    obtain rfl := Option.some.inj H
    go_wp2
    go_ret
    exact ⟨by (rfl), HB.out⟩


  rw [if_pos c8] at H
  have c8b0 : decide (0 < x7_2) = true := decide_eq_true c8
  clear c8
  replace H := Option.bind_eq_some_iff.mp H
  obtain ⟨t296, A90, H⟩ := H
  replace H : ((notaryref02_Most.f k2 t296 t293).bind fun t299 => (if t299 = true then (notaryref02_Root.l0 k2 a1 t293 (IntKind.u64.wrap (x6_2 + x7_2)) (IntKind.u64.wrap (Int.tdiv x7_2 2))) else (notaryref02_Root.l0 k2 a1 t293 x6_2 (IntKind.u64.wrap (Int.tdiv x7_2 2))))) = some r := H
  have A9 := Aside0.mk A90
  clear A90
  replace H := Option.bind_eq_some_iff.mp H
  obtain ⟨t299, A100, H⟩ := H
  replace H : (if t299 = true then (notaryref02_Root.l0 k2 a1 t293 (IntKind.u64.wrap (x6_2 + x7_2)) (IntKind.u64.wrap (Int.tdiv x7_2 2))) else (notaryref02_Root.l0 k2 a1 t293 x6_2 (IntKind.u64.wrap (Int.tdiv x7_2 2)))) = some r := H
  have A10 := Aside0.mk A100
  clear A100
  by_cases c11 : t299 = true
  · subst c11
    have H1 : (notaryref02_Root.l0 k2 a1 t293 (IntKind.u64.wrap (x6_2 + x7_2)) (IntKind.u64.wrap (Int.tdiv x7_2 2))) = some r := by rw [if_pos rfl] at H; exact H
    clear H
    have H := H1
    clear H1
    have H' := Aside0.mk H
    clear H
    go_wp2_with (first | ((with_reducible refine gate_callee (f := 100) rfl ?_); refine goesL_ (some 21) rfl rfl Try.func100 (by kernel_rfl) rfl #[.int .u64 (IntKind.u64.wrap (x6_2 + x7_2)), .int .i64 a1] rfl (by (try simp only [List.map_toArray, List.map_cons, List.map_nil]); (rfl)) ?_; (with_reducible refine (notaryref02_Power.calls k2 (IntKind.u64.wrap (x6_2 + x7_2)) a1 t296 _ A9.out).mono ?_); rintro e w12 ⟨v297, rfl, ho0, hb⟩; refine ⟨_, rfl, ?_⟩; have n0_ := Aside0.mk (Kd.R_elder' (by exact HO_5.out) (Kd.R_base ho0) hb); have n1_ := Aside0.mk (Kd.R_lower (Kd.R_new' ho0 (Kd.R_lt (by exact HO_5.out))) (below_size HB.out)); have n2_ := Aside0.mk (below_step HB.out hb); clear HO_5; clear HB; have HO_5 := n0_; have HO298 := n1_; have HB := n2_; clear n0_ n1_ n2_; (try clear hb); (try clear ho0); obtain ⟨Ao13, co13, eo13⟩ := Kd.R_slice HO298.out; subst eo13; obtain ⟨Ao14, co14, eo14⟩ := Kd.R_slice HO_5.out; subst eo14) | ((with_reducible refine gate_callee (f := 99) rfl ?_); refine goesL_ (some 23) rfl rfl Try.func99 (by kernel_rfl) rfl #[.slice Ao13 t296.length co13, .slice Ao14 t293.length co14] rfl (by (try simp only [List.map_toArray, List.map_cons, List.map_nil]); (rfl)) ?_; (with_reducible refine (notaryref02_Most.calls k2 _ _ t296 _ _ t293 true _ ?side1 ?side2 ?side3 ?side4 A10.out).mono ?_); (case side1 => repeat ((exact (Kd.R_reads' HO298.out).2.2))); (case side2 => exact (Kd.R_reads' HO298.out).2.1); (case side3 => repeat ((exact (Kd.R_reads' HO_5.out).2.2))); (case side4 => exact (Kd.R_reads' HO_5.out).2.1); rintro e w' ⟨rfl, ⟨nd, rfl⟩⟩; refine ⟨_, rfl, ?_⟩))
    go_roundg k2
    case measure => have := HJ4.out; have := HK2.out; omega
    case rel => exact ⟨(IntKind.u64.wrap (x6_2 + x7_2)), (IntKind.u64.wrap (Int.tdiv x7_2 2)), (by (rfl)), (by (rfl)), H', ⟨by have := HJ4.out; have := HK2.out; omega⟩, ⟨by (with_reducible repeat (apply Kd.R_drewN)); exact Kd.R_mono HO_5.out (fun _ hk => trivial)⟩, ⟨by repeat (with_reducible first | exact HB.out | apply pw_below_drewN)⟩⟩
  replace c11 := Bool.eq_false_iff.mpr c11
  subst c11
  have H1 : (notaryref02_Root.l0 k2 a1 t293 x6_2 (IntKind.u64.wrap (Int.tdiv x7_2 2))) = some r := by rw [if_neg (show ¬ (false = true) by decide)] at H; exact H
  clear H
  have H := H1
  clear H1
  have H' := Aside0.mk H
  clear H
  go_wp2_with (first | ((with_reducible refine gate_callee (f := 100) rfl ?_); refine goesL_ (some 21) rfl rfl Try.func100 (by kernel_rfl) rfl #[.int .u64 (IntKind.u64.wrap (x6_2 + x7_2)), .int .i64 a1] rfl (by (try simp only [List.map_toArray, List.map_cons, List.map_nil]); (rfl)) ?_; (with_reducible refine (notaryref02_Power.calls k2 (IntKind.u64.wrap (x6_2 + x7_2)) a1 t296 _ A9.out).mono ?_); rintro e w15 ⟨v297, rfl, ho0, hb⟩; refine ⟨_, rfl, ?_⟩; have n0_ := Aside0.mk (Kd.R_elder' (by exact HO_5.out) (Kd.R_base ho0) hb); have n1_ := Aside0.mk (Kd.R_lower (Kd.R_new' ho0 (Kd.R_lt (by exact HO_5.out))) (below_size HB.out)); have n2_ := Aside0.mk (below_step HB.out hb); clear HO_5; clear HB; have HO_5 := n0_; have HO298 := n1_; have HB := n2_; clear n0_ n1_ n2_; (try clear hb); (try clear ho0); obtain ⟨Ao16, co16, eo16⟩ := Kd.R_slice HO298.out; subst eo16; obtain ⟨Ao17, co17, eo17⟩ := Kd.R_slice HO_5.out; subst eo17) | ((with_reducible refine gate_callee (f := 99) rfl ?_); refine goesL_ (some 23) rfl rfl Try.func99 (by kernel_rfl) rfl #[.slice Ao16 t296.length co16, .slice Ao17 t293.length co17] rfl (by (try simp only [List.map_toArray, List.map_cons, List.map_nil]); (rfl)) ?_; (with_reducible refine (notaryref02_Most.calls k2 _ _ t296 _ _ t293 false _ ?side1 ?side2 ?side3 ?side4 A10.out).mono ?_); (case side1 => repeat ((exact (Kd.R_reads' HO298.out).2.2))); (case side2 => exact (Kd.R_reads' HO298.out).2.1); (case side3 => repeat ((exact (Kd.R_reads' HO_5.out).2.2))); (case side4 => exact (Kd.R_reads' HO_5.out).2.1); rintro e w' ⟨rfl, ⟨nd, rfl⟩⟩; refine ⟨_, rfl, ?_⟩))
  go_roundg k2
  case measure => have := HJ4.out; have := HK2.out; omega
  case rel => exact ⟨(x6_2), (IntKind.u64.wrap (Int.tdiv x7_2 2)), (by (rfl)), (by (rfl)), H', ⟨by have := HJ4.out; have := HK2.out; omega⟩, ⟨by (with_reducible repeat (apply Kd.R_drewN)); exact Kd.R_mono HO_5.out (fun _ hk => trivial)⟩, ⟨by repeat (with_reducible first | exact HB.out | apply pw_below_drewN)⟩⟩/-! ### notaryref03_Rounds: function 77 -/
def notaryref03_Rounds.l0 : Nat → List Int → List Int → Int → Option (List Int)
  | 0, _, _, _ => none
  | k + 1, x1, x2, x3 => if x3 < 64 then (if 0 ≤ x3 then (if x3 < (x2.length : Int) then ((notaryref02_Root.f k (rd x2 x3) 3).bind fun t307 => (if x1.length < 35184372088832 then (notaryref03_Rounds.l0 k (x1 ++ [(t307) % 4294967296]) x2 (wrap64 (x3 + 1))) else (none))) else (none)) else (none)) else (some x1)
def notaryref03_Rounds.f (k : Nat)  : Option (List Int) := (notaryref02_Primes.f k 64).bind fun t303 => (notaryref03_Rounds.l0 k ([] : List Int) t303 0)
theorem notaryref03_Rounds.mono_l : ∀ k, (∀ y0 y1 y2, LeO (notaryref03_Rounds.l0 k y0 y1 y2) (notaryref03_Rounds.l0 (k + 1) y0 y1 y2))
  | 0 => fun _ _ _ r h => by simp [notaryref03_Rounds.l0] at h
  | k + 1 => by
    have ih0 := notaryref03_Rounds.mono_l k
    · intro y0 y1 y2
      unfold notaryref03_Rounds.l0
      repeat' first | (with_reducible exact ih0 _ _ _) | (with_reducible exact notaryref02_Root.mono _ _ _) | (with_reducible exact LeO.refl _) | (with_reducible refine LeO.ite ?_ ?_) | (with_reducible refine LeO.bind ?_ (fun _ => ?_))
theorem notaryref03_Rounds.mono : ∀ k, LeO (notaryref03_Rounds.f k ) (notaryref03_Rounds.f (k + 1) ) := by
  intro  k
  have ih0 := notaryref03_Rounds.mono_l k
  unfold notaryref03_Rounds.f
  repeat' first | (with_reducible exact ih0 _ _ _) | (with_reducible exact notaryref02_Primes.mono _ _) | (with_reducible refine LeO.bind ?_ (fun _ => ?_))
set_option maxHeartbeats 8000000 in
set_option maxRecDepth 100000 in
theorem notaryref03_Rounds.calls (k : Nat)  (r : List Int) (w : World) (h : notaryref03_Rounds.f k  = some r) :
    Calls Try.prog 77 #[] w fun e w' => ∃ v0_ : Value, e = .returned (v0_) ∧ Kd.R (Kd.int .u32) 87 w' w.heap.size (fun _ => True) v0_ r ∧ Below w.heap.size w w' := by
  have HB := Aside0.mk (Below.refl w.heap.size w)
  have H : ((notaryref02_Primes.f k 64).bind fun t303 => (notaryref03_Rounds.l0 k ([] : List Int) t303 0)) = some r := h
  clear h
  obtain ⟨y300, hy300⟩ : ∃ y_ : List Int, y_ = ([] : List Int) := ⟨_, rfl⟩
  replace H : ((notaryref02_Primes.f k 64).bind fun t303 => (notaryref03_Rounds.l0 k y300 t303 0)) = some r := by (rw [hy300]; with_reducible exact H)
  have Ny300 := Aside0.mk hy300
  clear hy300
  replace H := Option.bind_eq_some_iff.mp H
  obtain ⟨t303, A10, H⟩ := H
  replace H : (notaryref03_Rounds.l0 k y300 t303 0) = some r := H
  have A1 := Aside0.mk A10
  clear A10
  have H' := Aside0.mk H
  clear H
  go_enter Try.func77, Try.ntmps77
  go_wp2_with (first | ((with_reducible refine gate_dst (N := 4) rfl ?_); refine Kd.R_lit (Kd.int .u32) _ 87 ?hg (N := 4) ?hd (xs := ([] : List Int)) (inner := []) (ok := fun _ => True) (okp := fun _ => True) ?hr ?hp (fun _ hk => hk) trivial (Below.refl _ _) (Nat.le_refl _) (by simp) ?_; (case hd => rfl); (case hg => rfl); (case hr => (go_simp; done)); (case hp => exact (Reps.none _ _)); intro v301 w2 ho3 hb hg_ hnew_; clear hg_ hnew_; (rw [← Ny300.out] at ho3); have n0_ := Aside0.mk (Kd.R_lower ho3 (below_size HB.out)); have n1_ := Aside0.mk (below_step HB.out hb); clear HB; have HO302 := n0_; have HB := n1_; clear n0_ n1_; clear hb ho3) | ((with_reducible refine gate_callee (f := 85) rfl ?_); refine goesL_ (some 5) rfl rfl Try.func85 (by kernel_rfl) rfl #[.int .i64 64] rfl (by (try simp only [List.map_toArray, List.map_cons, List.map_nil]); (rfl)) ?_; (with_reducible refine (notaryref02_Primes.calls k 64 t303 _ A1.out).mono ?_); rintro e w4 ⟨v304, rfl, ho0, hb⟩; refine ⟨_, rfl, ?_⟩; have n0_ := Aside0.mk (Kd.R_below (by exact HO302.out) hb); have n1_ := Aside0.mk (Kd.R_lower ho0 (below_size HB.out)); have n2_ := Aside0.mk (below_step HB.out hb); clear HO302; clear HB; have HO302 := n0_; have HO305 := n1_; have HB := n2_; clear n0_ n1_ n2_; (try clear hb); (try clear ho0)))
  go_loopg [1, 3] k (fun kq v1 v3 w' => ∃ (x1_1 : List Int) (x3_1 : Int), v3 = .int .i64 x3_1 ∧ Aside0 (notaryref03_Rounds.l0 kq x1_1 t303 x3_1 = some r) ∧ Aside0 (kq ≤ k) ∧ Aside0 (Kd.R (Kd.int .u32) 87 w' w.heap.size (fun _ => True) v1 x1_1) ∧ Aside0 (Kd.R (Kd.int .i64) 3 w' w.heap.size (fun _ => True) v304 t303) ∧ Aside0 (Below w.heap.size w w'))
  case atStart => exact ⟨(y300), (0), (by (rfl)), H', ⟨Nat.le_refl _⟩, ⟨by exact HO302.out⟩, ⟨by exact HO305.out⟩, ⟨HB.out⟩⟩
  clear H'
  obtain ⟨x1_1, x3_1, rfl, HA, HK1, HO_1, HO_2, HB⟩ := hrel
  rcases gk with _ | k1
  · exact absurd HA.out (by simp [notaryref03_Rounds.l0])
  have H := HA.out
  clear HA
  simp only [notaryref03_Rounds.l0] at H
  by_cases c5 : x3_1 < 64
  rotate_left
  · rw [if_neg c5] at H
    have c5b0 : decide (x3_1 < 64) = false := decide_eq_false c5
    clear c5
    obtain rfl := Option.some.inj H
    go_wp2
    go_ret
    exact ⟨_, by (rfl), by exact HO_1.out, HB.out⟩


  rw [if_pos c5] at H
  have c5b0 : decide (x3_1 < 64) = true := decide_eq_true c5
  clear c5
  by_cases c6 : 0 ≤ x3_1
  rotate_left
  · rw [if_neg c6] at H
    exact absurd H (by simp)
  rw [if_pos c6] at H
  have c6b0 : decide (0 ≤ x3_1) = true := decide_eq_true c6
  clear c6
  by_cases c7 : x3_1 < (t303.length : Int)
  rotate_left
  · rw [if_neg c7] at H
    exact absurd H (by simp)
  rw [if_pos c7] at H
  have c7b0 : decide (x3_1 < (t303.length : Int)) = true := decide_eq_true c7
  clear c7
  replace H := Option.bind_eq_some_iff.mp H
  obtain ⟨t307, A80, H⟩ := H
  replace H : (if x1_1.length < 35184372088832 then (notaryref03_Rounds.l0 k1 (x1_1 ++ [(t307) % 4294967296]) t303 (wrap64 (x3_1 + 1))) else (none)) = some r := H
  have A8 := Aside0.mk A80
  clear A80
  by_cases c9 : x1_1.length < 35184372088832
  rotate_left
  · rw [if_neg c9] at H
    exact absurd H (by simp)
  rw [if_pos c9] at H
  have LMc9 := Aside0.mk c9
  clear c9
  obtain ⟨y308, hy308⟩ : ∃ y_ : List Int, y_ = (x1_1 ++ [(t307) % 4294967296]) := ⟨_, rfl⟩
  replace H : (notaryref03_Rounds.l0 k1 y308 t303 (wrap64 (x3_1 + 1))) = some r := by (rw [hy308]; with_reducible exact H)
  have Ny308 := Aside0.mk hy308
  clear hy308
  have H' := Aside0.mk H
  clear H
  obtain ⟨Ao10, co10, eo10⟩ := Kd.R_slice HO_2.out
  subst eo10
  have p306 : 0 ≤ (x3_1 : Int) := of_decide_eq_true (by (with_reducible assumption))
  have q306 : x3_1 < (t303.length : Int) := of_decide_eq_true (by (with_reducible assumption))
  obtain ⟨ad306, e306, hx306_0⟩ := Kd.at_int (Kd.R_reads' HO_2.out).2.2 x3_1 p306 q306
  cases e306
  replace p306 := eq_true p306
  replace q306 := eq_true q306
  go_wp2_with (first | ((with_reducible refine gate_callee (f := 86) rfl ?_); refine goesL_ (some 15) rfl rfl Try.func86 (by kernel_rfl) rfl #[.int .i64 (rd t303 x3_1), .int .i64 3] rfl (by (try simp only [List.map_toArray, List.map_cons, List.map_nil]); (rfl)) ?_; (with_reducible refine (notaryref02_Root.calls k1 (rd t303 x3_1) 3 t307 _ A8.out).mono ?_); rintro e w11 ⟨rfl, hb⟩; refine ⟨_, rfl, ?_⟩; have n0_ := Aside0.mk (Kd.R_below (by exact HO_1.out) hb); have n1_ := Aside0.mk (Kd.R_below (by exact HO_2.out) hb); have n2_ := Aside0.mk (below_step HB.out hb); clear HO_1; clear HO_2; clear HB; have HO_1 := n0_; have HO_2 := n1_; have HB := n2_; clear n0_ n1_ n2_; (try clear hb); (skip)) | ((with_reducible refine gate_builtin (b := .append) (xs := #[.tmp 10, .tmp 17]) rfl ?_); at_builtin; refine Kd.R_append (Kd.int .u32) (w0 := w) w.heap.size rfl (.tmp 10) (.tmp 17) 113 87 (.int .u32 0) 4 rfl Try.underlying113 info87 rfl (by decide) (by omega) u1 x1_1 ((t307) % 4294967296) [.int .u32 ((t307) % 4294967296)] (fun _ => True) (fun _ => False) rfl rfl ?aP (fun _ hk => hk.elim) ?aF ?aO ?aB ?aS ?aL ?_; (case aP => exact rfl); (case aB => exact HB.out); (case aF => exact (fun _ _ => trivial)); (case aO => exact (by exact HO_1.out)); (case aS => exact (below_size HB.out)); (case aL => have := LMc9.out; omega); intro v309 w12 ho hb hg hat; rw [← Ny308.out] at ho; have n0_ := Aside0.mk (Kd.R_over' (by exact HO_2.out) (Kd.R_typed (by exact HO_1.out)) (by decide) hg); have n1_ := Aside0.mk (hb); have n2_ := Aside0.mk (ho); clear HO_2; clear HB; clear HO_1; have HO_2 := n0_; have HB := n1_; have HO310 := n2_; clear n0_ n1_ n2_; clear ho hb hg hat))
  go_roundg k1
  case measure => have := HK1.out; omega
  case rel => exact ⟨(y308), (wrap64 (x3_1 + 1)), (by (rfl)), H', ⟨by have := HK1.out; omega⟩, ⟨by exact HO310.out⟩, ⟨by exact HO_2.out⟩, ⟨HB.out⟩⟩/-! ### notaryref03_Start: function 78 -/
def notaryref03_Start.l0 : Nat → List Int → List Int → Int → Option (List Int)
  | 0, _, _, _ => none
  | k + 1, x1, x2, x3 => if x3 < 8 then (if 0 ≤ x3 then (if x3 < (x2.length : Int) then ((notaryref02_Root.f k (rd x2 x3) 2).bind fun t318 => (if x1.length < 35184372088832 then (notaryref03_Start.l0 k (x1 ++ [(t318) % 4294967296]) x2 (wrap64 (x3 + 1))) else (none))) else (none)) else (none)) else (some x1)
def notaryref03_Start.f (k : Nat)  : Option (List Int) := (notaryref02_Primes.f k 8).bind fun t314 => (notaryref03_Start.l0 k ([] : List Int) t314 0)
theorem notaryref03_Start.mono_l : ∀ k, (∀ y0 y1 y2, LeO (notaryref03_Start.l0 k y0 y1 y2) (notaryref03_Start.l0 (k + 1) y0 y1 y2))
  | 0 => fun _ _ _ r h => by simp [notaryref03_Start.l0] at h
  | k + 1 => by
    have ih0 := notaryref03_Start.mono_l k
    · intro y0 y1 y2
      unfold notaryref03_Start.l0
      repeat' first | (with_reducible exact ih0 _ _ _) | (with_reducible exact notaryref02_Root.mono _ _ _) | (with_reducible exact LeO.refl _) | (with_reducible refine LeO.ite ?_ ?_) | (with_reducible refine LeO.bind ?_ (fun _ => ?_))
theorem notaryref03_Start.mono : ∀ k, LeO (notaryref03_Start.f k ) (notaryref03_Start.f (k + 1) ) := by
  intro  k
  have ih0 := notaryref03_Start.mono_l k
  unfold notaryref03_Start.f
  repeat' first | (with_reducible exact ih0 _ _ _) | (with_reducible exact notaryref02_Primes.mono _ _) | (with_reducible refine LeO.bind ?_ (fun _ => ?_))
set_option maxHeartbeats 8000000 in
set_option maxRecDepth 100000 in
theorem notaryref03_Start.calls (k : Nat)  (r : List Int) (w : World) (h : notaryref03_Start.f k  = some r) :
    Calls Try.prog 78 #[] w fun e w' => ∃ v0_ : Value, e = .returned (v0_) ∧ Kd.R (Kd.int .u32) 87 w' w.heap.size (fun _ => True) v0_ r ∧ Below w.heap.size w w' := by
  have HB := Aside0.mk (Below.refl w.heap.size w)
  have H : ((notaryref02_Primes.f k 8).bind fun t314 => (notaryref03_Start.l0 k ([] : List Int) t314 0)) = some r := h
  clear h
  obtain ⟨y311, hy311⟩ : ∃ y_ : List Int, y_ = ([] : List Int) := ⟨_, rfl⟩
  replace H : ((notaryref02_Primes.f k 8).bind fun t314 => (notaryref03_Start.l0 k y311 t314 0)) = some r := by (rw [hy311]; with_reducible exact H)
  have Ny311 := Aside0.mk hy311
  clear hy311
  replace H := Option.bind_eq_some_iff.mp H
  obtain ⟨t314, A10, H⟩ := H
  replace H : (notaryref03_Start.l0 k y311 t314 0) = some r := H
  have A1 := Aside0.mk A10
  clear A10
  have H' := Aside0.mk H
  clear H
  go_enter Try.func78, Try.ntmps78
  go_wp2_with (first | ((with_reducible refine gate_dst (N := 4) rfl ?_); refine Kd.R_lit (Kd.int .u32) _ 87 ?hg (N := 4) ?hd (xs := ([] : List Int)) (inner := []) (ok := fun _ => True) (okp := fun _ => True) ?hr ?hp (fun _ hk => hk) trivial (Below.refl _ _) (Nat.le_refl _) (by simp) ?_; (case hd => rfl); (case hg => rfl); (case hr => (go_simp; done)); (case hp => exact (Reps.none _ _)); intro v312 w2 ho3 hb hg_ hnew_; clear hg_ hnew_; (rw [← Ny311.out] at ho3); have n0_ := Aside0.mk (Kd.R_lower ho3 (below_size HB.out)); have n1_ := Aside0.mk (below_step HB.out hb); clear HB; have HO313 := n0_; have HB := n1_; clear n0_ n1_; clear hb ho3) | ((with_reducible refine gate_callee (f := 85) rfl ?_); refine goesL_ (some 5) rfl rfl Try.func85 (by kernel_rfl) rfl #[.int .i64 8] rfl (by (try simp only [List.map_toArray, List.map_cons, List.map_nil]); (rfl)) ?_; (with_reducible refine (notaryref02_Primes.calls k 8 t314 _ A1.out).mono ?_); rintro e w4 ⟨v315, rfl, ho0, hb⟩; refine ⟨_, rfl, ?_⟩; have n0_ := Aside0.mk (Kd.R_below (by exact HO313.out) hb); have n1_ := Aside0.mk (Kd.R_lower ho0 (below_size HB.out)); have n2_ := Aside0.mk (below_step HB.out hb); clear HO313; clear HB; have HO313 := n0_; have HO316 := n1_; have HB := n2_; clear n0_ n1_ n2_; (try clear hb); (try clear ho0)))
  go_loopg [1, 3] k (fun kq v1 v3 w' => ∃ (x1_1 : List Int) (x3_1 : Int), v3 = .int .i64 x3_1 ∧ Aside0 (notaryref03_Start.l0 kq x1_1 t314 x3_1 = some r) ∧ Aside0 (kq ≤ k) ∧ Aside0 (Kd.R (Kd.int .u32) 87 w' w.heap.size (fun _ => True) v1 x1_1) ∧ Aside0 (Kd.R (Kd.int .i64) 3 w' w.heap.size (fun _ => True) v315 t314) ∧ Aside0 (Below w.heap.size w w'))
  case atStart => exact ⟨(y311), (0), (by (rfl)), H', ⟨Nat.le_refl _⟩, ⟨by exact HO313.out⟩, ⟨by exact HO316.out⟩, ⟨HB.out⟩⟩
  clear H'
  obtain ⟨x1_1, x3_1, rfl, HA, HK1, HO_1, HO_2, HB⟩ := hrel
  rcases gk with _ | k1
  · exact absurd HA.out (by simp [notaryref03_Start.l0])
  have H := HA.out
  clear HA
  simp only [notaryref03_Start.l0] at H
  by_cases c5 : x3_1 < 8
  rotate_left
  · rw [if_neg c5] at H
    have c5b0 : decide (x3_1 < 8) = false := decide_eq_false c5
    clear c5
    obtain rfl := Option.some.inj H
    go_wp2
    go_ret
    exact ⟨_, by (rfl), by exact HO_1.out, HB.out⟩


  rw [if_pos c5] at H
  have c5b0 : decide (x3_1 < 8) = true := decide_eq_true c5
  clear c5
  by_cases c6 : 0 ≤ x3_1
  rotate_left
  · rw [if_neg c6] at H
    exact absurd H (by simp)
  rw [if_pos c6] at H
  have c6b0 : decide (0 ≤ x3_1) = true := decide_eq_true c6
  clear c6
  by_cases c7 : x3_1 < (t314.length : Int)
  rotate_left
  · rw [if_neg c7] at H
    exact absurd H (by simp)
  rw [if_pos c7] at H
  have c7b0 : decide (x3_1 < (t314.length : Int)) = true := decide_eq_true c7
  clear c7
  replace H := Option.bind_eq_some_iff.mp H
  obtain ⟨t318, A80, H⟩ := H
  replace H : (if x1_1.length < 35184372088832 then (notaryref03_Start.l0 k1 (x1_1 ++ [(t318) % 4294967296]) t314 (wrap64 (x3_1 + 1))) else (none)) = some r := H
  have A8 := Aside0.mk A80
  clear A80
  by_cases c9 : x1_1.length < 35184372088832
  rotate_left
  · rw [if_neg c9] at H
    exact absurd H (by simp)
  rw [if_pos c9] at H
  have LMc9 := Aside0.mk c9
  clear c9
  obtain ⟨y319, hy319⟩ : ∃ y_ : List Int, y_ = (x1_1 ++ [(t318) % 4294967296]) := ⟨_, rfl⟩
  replace H : (notaryref03_Start.l0 k1 y319 t314 (wrap64 (x3_1 + 1))) = some r := by (rw [hy319]; with_reducible exact H)
  have Ny319 := Aside0.mk hy319
  clear hy319
  have H' := Aside0.mk H
  clear H
  obtain ⟨Ao10, co10, eo10⟩ := Kd.R_slice HO_2.out
  subst eo10
  have p317 : 0 ≤ (x3_1 : Int) := of_decide_eq_true (by (with_reducible assumption))
  have q317 : x3_1 < (t314.length : Int) := of_decide_eq_true (by (with_reducible assumption))
  obtain ⟨ad317, e317, hx317_0⟩ := Kd.at_int (Kd.R_reads' HO_2.out).2.2 x3_1 p317 q317
  cases e317
  replace p317 := eq_true p317
  replace q317 := eq_true q317
  go_wp2_with (first | ((with_reducible refine gate_callee (f := 86) rfl ?_); refine goesL_ (some 15) rfl rfl Try.func86 (by kernel_rfl) rfl #[.int .i64 (rd t314 x3_1), .int .i64 2] rfl (by (try simp only [List.map_toArray, List.map_cons, List.map_nil]); (rfl)) ?_; (with_reducible refine (notaryref02_Root.calls k1 (rd t314 x3_1) 2 t318 _ A8.out).mono ?_); rintro e w11 ⟨rfl, hb⟩; refine ⟨_, rfl, ?_⟩; have n0_ := Aside0.mk (Kd.R_below (by exact HO_1.out) hb); have n1_ := Aside0.mk (Kd.R_below (by exact HO_2.out) hb); have n2_ := Aside0.mk (below_step HB.out hb); clear HO_1; clear HO_2; clear HB; have HO_1 := n0_; have HO_2 := n1_; have HB := n2_; clear n0_ n1_ n2_; (try clear hb); (skip)) | ((with_reducible refine gate_builtin (b := .append) (xs := #[.tmp 10, .tmp 17]) rfl ?_); at_builtin; refine Kd.R_append (Kd.int .u32) (w0 := w) w.heap.size rfl (.tmp 10) (.tmp 17) 113 87 (.int .u32 0) 4 rfl Try.underlying113 info87 rfl (by decide) (by omega) u1 x1_1 ((t318) % 4294967296) [.int .u32 ((t318) % 4294967296)] (fun _ => True) (fun _ => False) rfl rfl ?aP (fun _ hk => hk.elim) ?aF ?aO ?aB ?aS ?aL ?_; (case aP => exact rfl); (case aB => exact HB.out); (case aF => exact (fun _ _ => trivial)); (case aO => exact (by exact HO_1.out)); (case aS => exact (below_size HB.out)); (case aL => have := LMc9.out; omega); intro v320 w12 ho hb hg hat; rw [← Ny319.out] at ho; have n0_ := Aside0.mk (Kd.R_over' (by exact HO_2.out) (Kd.R_typed (by exact HO_1.out)) (by decide) hg); have n1_ := Aside0.mk (hb); have n2_ := Aside0.mk (ho); clear HO_2; clear HB; clear HO_1; have HO_2 := n0_; have HB := n1_; have HO321 := n2_; clear n0_ n1_ n2_; clear ho hb hg hat))
  go_roundg k1
  case measure => have := HK1.out; omega
  case rel => exact ⟨(y319), (wrap64 (x3_1 + 1)), (by (rfl)), H', ⟨by have := HK1.out; omega⟩, ⟨by exact HO321.out⟩, ⟨by exact HO_2.out⟩, ⟨HB.out⟩⟩/-! ### notaryref03_Rot: function 88 -/
def notaryref03_Rot.f (a0 : Int) (a1 : Int) : Option (Int) := if 0 ≤ a1 then (if 0 ≤ (IntKind.u64.wrap (32 - a1)) then (some (Go.bits .or .u32 (shr .u32 a0 a1) (shl .u32 a0 (IntKind.u64.wrap (32 - a1))))) else (none)) else (none)
set_option maxHeartbeats 8000000 in
set_option maxRecDepth 100000 in
theorem notaryref03_Rot.calls (a0 : Int) (a1 : Int) (r : Int) (w : World) (h : notaryref03_Rot.f a0 a1 = some r) :
    Calls Try.prog 88 #[.int .u32 a0, .int .u64 a1] w fun e w' => e = .returned (.int .u32 r) ∧ Drawn0 w w' := by
  have H : (if 0 ≤ a1 then (if 0 ≤ (IntKind.u64.wrap (32 - a1)) then (some (Go.bits .or .u32 (shr .u32 a0 a1) (shl .u32 a0 (IntKind.u64.wrap (32 - a1))))) else (none)) else (none)) = some r := h
  clear h
  by_cases c3 : 0 ≤ a1
  rotate_left
  · rw [if_neg c3] at H
    exact absurd H (by simp)

  rw [if_pos c3] at H
  have c3b0 := eq_true c3
  have c3b1 : decide (0 ≤ a1) = true := decide_eq_true c3
  clear c3
  obtain ⟨ji4, hji4⟩ : ∃ j_ : Int, (shr .u32 a0 a1) = j_ := ⟨_, rfl⟩
  replace H : (if 0 ≤ (IntKind.u64.wrap (32 - a1)) then (some (Go.bits .or .u32 (ji4) (shl .u32 a0 (IntKind.u64.wrap (32 - a1))))) else (none)) = some r := by (rw [hji4] at H; exact H)
  have hji4_ : (a0 / 2 ^ min a1.toNat 32) = ji4 := hji4
  have hji4z : a1 ≤ 32 → (a0 / 2 ^ a1.toNat) = ji4 := shr_small hji4
  obtain ⟨ji5, hji5⟩ : ∃ j_ : Int, (IntKind.u64.wrap (32 - a1)) = j_ := ⟨_, rfl⟩
  replace H : (if 0 ≤ (ji5) then (some (Go.bits .or .u32 (ji4) (shl .u32 a0 (ji5)))) else (none)) = some r := by (rw [hji5] at H; exact H)
  by_cases c6 : 0 ≤ (ji5)
  rotate_left
  · rw [if_neg c6] at H
    exact absurd H (by simp)
  rw [if_pos c6] at H
  have c6b0 := eq_true c6
  have c6b1 : decide (0 ≤ (ji5)) = true := decide_eq_true c6
  clear c6
  obtain ⟨ji7, hji7⟩ : ∃ j_ : Int, (shl .u32 a0 (ji5)) = j_ := ⟨_, rfl⟩
  replace H : (some (Go.bits .or .u32 (ji4) (ji7))) = some r := by (rw [hji7] at H; exact H)
  have hji7_ : (IntKind.u32.wrap (a0 * 2 ^ min (ji5).toNat 32)) = ji7 := hji7
  have hji7z : (ji5) ≤ 32 → (IntKind.u32.wrap (a0 * 2 ^ (ji5).toNat)) = ji7 := shl_small hji7
  obtain rfl := Option.some.inj H
  go_enter Try.func88, Try.ntmps88
  go_wp2
  go_ret
  exact ⟨by (rfl), by repeat (exact Drawn0.refl _)⟩
end Go.Proofs.Ytogjnipojakfjaa.PJr
