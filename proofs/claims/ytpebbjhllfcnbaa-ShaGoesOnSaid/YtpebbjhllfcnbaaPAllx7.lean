-- PRINTED by print.py (a twelfth state) out of the translation. Not trusted: Lean checks it.
import Derived.Test.YtpebbjhllfcnbaaPAllx0
import Derived.Test.YtpebbjhllfcnbaaPAllx1
import Derived.Test.YtpebbjhllfcnbaaPAllx2
import Derived.Test.YtpebbjhllfcnbaaPAllx3
import Derived.Test.YtpebbjhllfcnbaaPAllx4
import Derived.Test.YtpebbjhllfcnbaaPAllx6
namespace Go.Proofs.Ytpebbjhllfcnbaa.PAll
open Go.RowKit Go.Proofs.YtpebbjhllfcnbaaW.PrintWords Go.Proofs.YtpebbjhllfcnbaaW.PrintLast Go.Proofs.YtpebbjhllfcnbaaW.PrintMore
attribute [local go_sem] max2_int min2_int max_two min_two max_three min_three max_four min_four   -- for this text's walks alone
set_option linter.unusedVariables false
set_option linter.unusedSimpArgs false

/-! ### notaryref03_Rounds: function 18 -/
def notaryref03_Rounds.l0 : Nat → List Int → List Int → Int → Option (List Int)
  | 0, _, _, _ => none
  | k + 1, x1, x2, x3 => if x3 < 64 then (if 0 ≤ x3 then (if x3 < (x2.length : Int) then ((notaryref02_Root.f k (rd x2 x3) 3).bind fun t245 => (if x1.length < 35184372088832 then (notaryref03_Rounds.l0 k (x1 ++ [(t245) % 4294967296]) x2 (wrap64 (x3 + 1))) else (none))) else (none)) else (none)) else (some x1)
def notaryref03_Rounds.f (k : Nat)  : Option (List Int) := (notaryref02_Primes.f k 64).bind fun t241 => (notaryref03_Rounds.l0 k (([] : List Int)) t241 0)
theorem notaryref03_Rounds.mono_l : ∀ k, (∀ y0 y1 y2, LeO (notaryref03_Rounds.l0 k y0 y1 y2) (notaryref03_Rounds.l0 (k + 1) y0 y1 y2))
  | 0 => fun _ _ _ r h => by simp [notaryref03_Rounds.l0] at h
  | k + 1 => by
    have ih0 := notaryref03_Rounds.mono_l k
    · intro y0 y1 y2
      unfold notaryref03_Rounds.l0
      repeat' first
      | (with_reducible exact ih0 _ _ _)
      | (with_reducible exact notaryref02_Primes.mono _ _)
      | (with_reducible exact notaryref02_Root.mono _ _ _)
      | (with_reducible exact LeO.refl _)
      | (with_reducible exact LeO.none _)
      | (with_reducible refine LeO.ite ?_ ?_)
      | (with_reducible refine LeO.bind ?_ (fun _ => ?_))
      | exact ih0 _ _ _
      | exact notaryref02_Primes.mono _ _
      | exact notaryref02_Root.mono _ _ _
      | exact LeO.none _
      | refine LeO.ite ?_ ?_
      | refine LeO.bind ?_ (fun _ => ?_)
theorem notaryref03_Rounds.mono : ∀ k, LeO (notaryref03_Rounds.f k ) (notaryref03_Rounds.f (k + 1) ) := by
  intro  k
  have ih0 := notaryref03_Rounds.mono_l k
  unfold notaryref03_Rounds.f
  repeat' first
      | (with_reducible exact ih0 _ _ _)
      | (with_reducible exact notaryref02_Primes.mono _ _)
      | (with_reducible exact notaryref02_Root.mono _ _ _)
      | (with_reducible exact LeO.refl _)
      | (with_reducible exact LeO.none _)
      | (with_reducible refine LeO.ite ?_ ?_)
      | (with_reducible refine LeO.bind ?_ (fun _ => ?_))
      | exact ih0 _ _ _
      | exact notaryref02_Primes.mono _ _
      | exact notaryref02_Root.mono _ _ _
      | exact LeO.none _
      | refine LeO.ite ?_ ?_
      | refine LeO.bind ?_ (fun _ => ?_)
set_option maxHeartbeats 8000000 in
set_option maxRecDepth 100000 in
theorem notaryref03_Rounds.calls (k : Nat)  (r : List Int) (w : World) (h : notaryref03_Rounds.f k  = some r) :
    Calls Try.prog 18 #[] w fun e w' => ∃ v0_ : Value, e = .returned (v0_) ∧ Kd.R (Kd.int .u32) 34 w' w.heap.size (fun _ => True) v0_ r ∧ Below w.heap.size w w' := by
  have HB := Aside0.mk (Below.refl w.heap.size w)
  have H : ((notaryref02_Primes.f k 64).bind fun t241 => (notaryref03_Rounds.l0 k (([] : List Int)) t241 0)) = some r := h
  clear h
  obtain ⟨y238, hy238⟩ : ∃ y_ : List Int, y_ = (([] : List Int)) := ⟨_, rfl⟩
  replace H : ((notaryref02_Primes.f k 64).bind fun t241 => (notaryref03_Rounds.l0 k y238 t241 0)) = some r := by first | (rw [hy238]; with_reducible exact H) | (have H2_ := (Option.bind_some _ _).symm.trans H; rw [hy238]; with_reducible exact H2_) | (have H2_ := (Option.bind_some _ _).symm.trans H; with_reducible exact H2_) | with_reducible exact H | (rw [hy238]; exact H) | exact H
  have Ny238 := Aside0.mk hy238
  clear hy238
  replace H := Option.bind_eq_some_iff.mp H
  obtain ⟨t241, A10, H⟩ := H
  replace H : (notaryref03_Rounds.l0 k y238 t241 0) = some r := H
  have A1 := Aside0.mk A10
  clear A10
  have H' := Aside0.mk H
  clear H
  go_enter Try.func18, Try.ntmps18
  go_wp2_with (first | ((with_reducible refine gate_dst (N := 4) rfl ?_); refine Kd.R_lit (Kd.int .u32) _ 34 ?hg (N := 4) ?hd (xs := ([] : List Int)) (inner := []) (ok := fun _ => True) (okp := fun _ => True) ?hr ?hp (fun _ hk => hk) trivial (Below.refl _ _) (Nat.le_refl _) (by simp) ?_; (case hd => rfl); (case hg => rfl); (case hr => first | (go_simp; done) | (go_simp; rfl) | (go_simp; simp only [IntKind.wrap_u8, IntKind.wrap_u32, (fun x => Int.tmod_eq_emod_of_nonneg (Int.emod_nonneg x (by decide)) : ∀ x : Int, (x % 4294967296).tmod 256 = x % 4294967296 % 256), Int.emod_emod_of_dvd _ (show (256 : Int) ∣ 4294967296 by decide), Int.emod_emod]; done) | (go_simp; simp only [IntKind.wrap_u8, IntKind.wrap_u32, (fun x => Int.tmod_eq_emod_of_nonneg (Int.emod_nonneg x (by decide)) : ∀ x : Int, (x % 4294967296).tmod 256 = x % 4294967296 % 256), Int.emod_emod_of_dvd _ (show (256 : Int) ∣ 4294967296 by decide), Int.emod_emod]; rfl)); (case hp => exact (Reps.none _ _)); intro v239 w2 ho3 hb hg_ hnew_; clear hg_ hnew_; (first | rw [← Ny238.out] at ho3 | (simp only [Int.reduceToNat] at ho3; rw [← Ny238.out] at ho3)); have n0_ := Aside0.mk (Kd.R_lower ho3 (below_size (by repeat (first | (with_reducible first | exact HB.out | apply below_alloc | apply pw_below_drewN | apply below_drew1) | exact HB.out)))); have n1_ := Aside0.mk (below_step (by repeat (first | (with_reducible first | exact HB.out | apply below_alloc | apply pw_below_drewN | apply below_drew1) | exact HB.out)) hb); clear HB; have HO240 := n0_; have HB := n1_; clear n0_ n1_; clear hb ho3) | ((with_reducible refine gate_callee (f := 27) rfl ?_); refine goesL_ (some 5) rfl rfl Try.func27 (by kernel_rfl) rfl #[.int .i64 64] rfl (by (try simp only [List.map_toArray, List.map_cons, List.map_nil]); first | done | rfl | (simp only [List.length_drop, List.length_take]; rfl)) ?_; (with_reducible refine (notaryref02_Primes.calls k 64 t241 _ A1.out).mono ?_); rintro e w4 ⟨v242, rfl, ho0, hb⟩; refine ⟨_, rfl, ?_⟩; have n0_ := Aside0.mk (Kd.R_below (by (with_reducible repeat (first | apply Kd.R_alloc | apply Kd.R_drewN | apply Kd.R_drew)); exact HO240.out) hb); have n1_ := Aside0.mk (Kd.R_lower ho0 (below_size (by repeat (first | (with_reducible first | exact HB.out | apply below_alloc | apply pw_below_drewN | apply below_drew1) | exact HB.out)))); have n2_ := Aside0.mk (below_step (by repeat (first | (with_reducible first | exact HB.out | apply below_alloc | apply pw_below_drewN | apply below_drew1) | exact HB.out)) hb); clear HO240; clear HB; have HO240 := n0_; have HO243 := n1_; have HB := n2_; clear n0_ n1_ n2_; (try clear hb); (try clear hb2); (try clear hk); (try clear hi); (try clear ho0)))
  go_loopg [1, 3] k (fun kq v1 v3 w' => ∃ (x1_1 : List Int) (x3_1 : Int), v3 = .int .i64 x3_1 ∧ Aside0 (notaryref03_Rounds.l0 kq x1_1 t241 x3_1 = some r) ∧ Aside0 (kq ≤ k) ∧ Aside0 (Kd.R (Kd.int .u32) 34 w' w.heap.size (fun _ => True) v1 x1_1) ∧ Aside0 (Kd.R (Kd.int .i64) 3 w' w.heap.size (fun _ => True) v242 t241) ∧ Aside0 (Below w.heap.size w w'))
  case atStart => exact ⟨(y238), (0), (by first | rfl | (simp; done) | (simp [*]; done)), H', ⟨Nat.le_refl _⟩, ⟨by (with_reducible repeat (first | apply Kd.R_alloc | apply Kd.R_drewN | apply Kd.R_drew)); exact HO240.out⟩, ⟨by (with_reducible repeat (first | apply Kd.R_alloc | apply Kd.R_drewN | apply Kd.R_drew)); exact HO243.out⟩, ⟨by repeat (first | (with_reducible first | exact HB.out | apply below_alloc | apply pw_below_drewN | apply below_drew1) | exact HB.out)⟩⟩
  case round =>
    clear H'
    try clear c1
    try clear c2
    try clear p2
    obtain ⟨x1_1, x3_1, rfl, HA, HK1, HO_1, HO_2, HB⟩ := hrel
    cases gk with
    | zero => exact absurd HA.out (by simp [notaryref03_Rounds.l0])
    | succ k1 =>
      have H := HA.out
      clear HA
      simp only [notaryref03_Rounds.l0] at H
      by_cases c5 : x3_1 < 64
      · rw [if_pos c5] at H
        have c5b0 : decide (x3_1 < 64) = true := decide_eq_true c5
        clear c5
        by_cases c6 : 0 ≤ x3_1
        · rw [if_pos c6] at H
          have c6b0 : decide (0 ≤ x3_1) = true := decide_eq_true c6
          clear c6
          by_cases c7 : x3_1 < (t241.length : Int)
          · rw [if_pos c7] at H
            have c7b0 : decide (x3_1 < (t241.length : Int)) = true := decide_eq_true c7
            clear c7
            replace H := Option.bind_eq_some_iff.mp H
            obtain ⟨t245, A80, H⟩ := H
            replace H : (if x1_1.length < 35184372088832 then (notaryref03_Rounds.l0 k1 (x1_1 ++ [(t245) % 4294967296]) t241 (wrap64 (x3_1 + 1))) else (none)) = some r := H
            have A8 := Aside0.mk A80
            clear A80
            by_cases c9 : x1_1.length < 35184372088832
            · rw [if_pos c9] at H
              have LMc9 := Aside0.mk c9
              clear c9
              obtain ⟨y246, hy246⟩ : ∃ y_ : List Int, y_ = (x1_1 ++ [(t245) % 4294967296]) := ⟨_, rfl⟩
              replace H : (notaryref03_Rounds.l0 k1 y246 t241 (wrap64 (x3_1 + 1))) = some r := by first | (rw [hy246]; with_reducible exact H) | (have H2_ := (Option.bind_some _ _).symm.trans H; rw [hy246]; with_reducible exact H2_) | (have H2_ := (Option.bind_some _ _).symm.trans H; with_reducible exact H2_) | with_reducible exact H | (rw [hy246]; exact H) | exact H
              have Ny246 := Aside0.mk hy246
              clear hy246
              have H' := Aside0.mk H
              clear H
              obtain ⟨Ao10, co10, eo10⟩ := Kd.R_slice HO_2.out
              subst eo10
              have p244 : 0 ≤ (x3_1 : Int) := of_decide_eq_true (by first | (with_reducible assumption) | assumption)
              have q244 : x3_1 < (t241.length : Int) := of_decide_eq_true (by first | (with_reducible assumption) | assumption)
              obtain ⟨ad244, e244, hx244_0⟩ := Kd.at_int (Kd.R_reads' HO_2.out).2.2 x3_1 p244 q244
              cases e244
              replace p244 := eq_true p244
              replace q244 := eq_true q244
              go_wp2_with (first | ((with_reducible refine gate_callee (f := 28) rfl ?_); refine goesL_ (some 15) rfl rfl Try.func28 (by kernel_rfl) rfl #[.int .i64 (rd t241 x3_1), .int .i64 3] rfl (by (try simp only [List.map_toArray, List.map_cons, List.map_nil]); first | done | rfl | (simp only [List.length_drop, List.length_take]; rfl)) ?_; (with_reducible refine (notaryref02_Root.calls k1 (rd t241 x3_1) 3 t245 _ A8.out).mono ?_); rintro e w11 ⟨rfl, hb⟩; refine ⟨_, rfl, ?_⟩; have n0_ := Aside0.mk (Kd.R_below (by (with_reducible repeat (first | apply Kd.R_alloc | apply Kd.R_drewN | apply Kd.R_drew)); exact HO_1.out) hb); have n1_ := Aside0.mk (Kd.R_below (by (with_reducible repeat (first | apply Kd.R_alloc | apply Kd.R_drewN | apply Kd.R_drew)); exact HO_2.out) hb); have n2_ := Aside0.mk (below_step (by repeat (first | (with_reducible first | exact HB.out | apply below_alloc | apply pw_below_drewN | apply below_drew1) | exact HB.out)) hb); clear HO_1; clear HO_2; clear HB; have HO_1 := n0_; have HO_2 := n1_; have HB := n2_; clear n0_ n1_ n2_; (try clear hb); (try clear hb2); (try clear hk); (try clear hi)) | ((with_reducible refine gate_builtin (b := .append) (xs := #[.tmp 10, .tmp 17]) rfl ?_); at_builtin; refine Kd.R_append (Kd.int .u32) (w0 := w) w.heap.size rfl (.tmp 10) (.tmp 17) 26 34 (.int .u32 0) 4 rfl Try.underlying26 info34 rfl (by decide) (by omega) u1 x1_1 ((t245) % 4294967296) [.int .u32 ((t245) % 4294967296)] (fun _ => True) (fun _ => False) rfl rfl ?aP (fun _ hk => hk.elim) ?aF ?aO ?aB ?aS ?aL ?_; (case aP => exact rfl); (case aB => exact (by repeat (first | (with_reducible first | exact HB.out | apply below_alloc | apply pw_below_drewN | apply below_drew1) | exact HB.out))); (case aF => exact (fun _ _ => trivial)); (case aO => exact (by (with_reducible repeat (first | apply Kd.R_alloc | apply Kd.R_drewN | apply Kd.R_drew)); exact HO_1.out)); (case aS => exact (below_size (by repeat (first | (with_reducible first | exact HB.out | apply below_alloc | apply pw_below_drewN | apply below_drew1) | exact HB.out)))); (case aL => have := LMc9.out; omega); intro v247 w12 ho hb hg hat; rw [← Ny246.out] at ho; have n0_ := Aside0.mk (Kd.R_over' (by (with_reducible repeat (first | apply Kd.R_alloc | apply Kd.R_drewN | apply Kd.R_drew)); exact HO_2.out) (Kd.R_typed (by (with_reducible repeat (first | apply Kd.R_alloc | apply Kd.R_drewN | apply Kd.R_drew)); exact HO_1.out)) (by decide) hg); have n1_ := Aside0.mk (hb); have n2_ := Aside0.mk (ho); clear HO_2; clear HB; clear HO_1; have HO_2 := n0_; have HB := n1_; have HO248 := n2_; clear n0_ n1_ n2_; clear ho hb hg hat))
              go_roundg k1
              case measure => have := HK1.out; omega
              case rel => exact ⟨(y246), (wrap64 (x3_1 + 1)), (by first | rfl | (simp; done) | (simp [*]; done)), H', ⟨by have := HK1.out; omega⟩, ⟨by (with_reducible repeat (first | apply Kd.R_alloc | apply Kd.R_drewN | apply Kd.R_drew)); exact HO248.out⟩, ⟨by (with_reducible repeat (first | apply Kd.R_alloc | apply Kd.R_drewN | apply Kd.R_drew)); exact HO_2.out⟩, ⟨by repeat (first | (with_reducible first | exact HB.out | apply below_alloc | apply pw_below_drewN | apply below_drew1) | exact HB.out)⟩⟩
            · rw [if_neg c9] at H
              exact absurd H (by simp)
          · rw [if_neg c7] at H
            exact absurd H (by simp)
        · rw [if_neg c6] at H
          exact absurd H (by simp)
      · rw [if_neg c5] at H
        have c5b0 : decide (x3_1 < 64) = false := decide_eq_false c5
        clear c5
        obtain rfl := Option.some.inj H
        go_wp2
        go_ret
        exact ⟨_, by first | rfl | (simp [errW_none, errW_some] <;> rfl) | (simp [*, errW_none, errW_some] <;> rfl), by (with_reducible repeat (first | apply Kd.R_alloc | apply Kd.R_drewN | apply Kd.R_drew)); exact HO_1.out, by repeat (first | (with_reducible first | exact HB.out | apply below_alloc | apply pw_below_drewN | apply below_drew1) | exact HB.out)⟩

/-! ### notarylaw03_ShaBlocks: function 4 -/
def notarylaw03_ShaBlocks.j0 : Nat → List Int → List Int → Bool → Option (Bool)
  | 0, _, _, _ => none
  | k + 1, x0, x1, x12 => if x12 = true then ((sha_Block.f x0 x1).bind fun t249 => (if (t249.length : Int) = 0 then ((sha_Start.f).bind fun t252 => ((notaryref03_Start.f k).bind fun t255 => ((notaryref03_Alike.f k t252 t255).bind fun t258 => (some t258)))) else (some false))) else ((sha_Block.f x0 x1).bind fun t259 => ((notaryref03_Rounds.f k).bind fun t262 => ((notaryref03_Block.f k x0 x1 t262).bind fun t265 => ((notaryref03_Alike.f k t259 t265).bind fun t268 => (some t268)))))
def notarylaw03_ShaBlocks.f (k : Nat) (l0 : List Int) (l1 : List Int) : Option (Bool) := if (l0.length : Int) = 8 then (notarylaw03_ShaBlocks.j0 k l0 l1 ((l1.length : Int) != 64)) else (notarylaw03_ShaBlocks.j0 k l0 l1 true)
theorem notarylaw03_ShaBlocks.mono_l : ∀ k, (∀ y0 y1 y2, LeO (notarylaw03_ShaBlocks.j0 k y0 y1 y2) (notarylaw03_ShaBlocks.j0 (k + 1) y0 y1 y2))
  | 0 => fun _ _ _ r h => by simp [notarylaw03_ShaBlocks.j0] at h
  | k + 1 => by
    have ih0 := notarylaw03_ShaBlocks.mono_l k
    · intro y0 y1 y2
      unfold notarylaw03_ShaBlocks.j0
      repeat' first
      | (with_reducible exact ih0 _ _ _)
      | (with_reducible exact notaryref03_Alike.mono _ _ _)
      | (with_reducible exact notaryref03_Block.mono _ _ _ _)
      | (with_reducible exact notaryref03_Rounds.mono _)
      | (with_reducible exact notaryref03_Start.mono _)
      | (with_reducible exact LeO.refl _)
      | (with_reducible exact LeO.none _)
      | (with_reducible refine LeO.ite ?_ ?_)
      | (with_reducible refine LeO.bind ?_ (fun _ => ?_))
      | exact ih0 _ _ _
      | exact notaryref03_Alike.mono _ _ _
      | exact notaryref03_Block.mono _ _ _ _
      | exact notaryref03_Rounds.mono _
      | exact notaryref03_Start.mono _
      | exact LeO.none _
      | refine LeO.ite ?_ ?_
      | refine LeO.bind ?_ (fun _ => ?_)
theorem notarylaw03_ShaBlocks.mono : ∀ a0 a1 k, LeO (notarylaw03_ShaBlocks.f k a0 a1) (notarylaw03_ShaBlocks.f (k + 1) a0 a1) := by
  intro a0 a1 k
  have ih0 := notarylaw03_ShaBlocks.mono_l k
  unfold notarylaw03_ShaBlocks.f
  repeat' first
      | (with_reducible exact ih0 _ _ _)
      | (with_reducible exact notaryref03_Alike.mono _ _ _)
      | (with_reducible exact notaryref03_Block.mono _ _ _ _)
      | (with_reducible exact notaryref03_Rounds.mono _)
      | (with_reducible exact notaryref03_Start.mono _)
      | (with_reducible exact LeO.refl _)
      | (with_reducible exact LeO.none _)
      | (with_reducible refine LeO.ite ?_ ?_)
      | (with_reducible refine LeO.bind ?_ (fun _ => ?_))
      | exact ih0 _ _ _
      | exact notaryref03_Alike.mono _ _ _
      | exact notaryref03_Block.mono _ _ _ _
      | exact notaryref03_Rounds.mono _
      | exact notaryref03_Start.mono _
      | exact LeO.none _
      | refine LeO.ite ?_ ?_
      | refine LeO.bind ?_ (fun _ => ?_)
set_option maxHeartbeats 8000000 in
set_option maxRecDepth 100000 in
theorem notarylaw03_ShaBlocks.calls (k : Nat) (A0 : Option Addr) (c0 : Nat) (l0 : List Int) (A1 : Option Addr) (c1 : Nat) (l1 : List Int) (r : Bool) (w : World) (hr0 : Kd.C (Kd.int .u32) w A0 l0.length l0) (hc0 : l0.length ≤ c0) (hr1 : Kd.C (Kd.int .u8) w A1 l1.length l1) (hc1 : l1.length ≤ c1) (h : notarylaw03_ShaBlocks.f k l0 l1 = some r) :
    Calls Try.prog 4 #[.slice A0 l0.length c0, .slice A1 l1.length c1] w fun e w' => e = .returned (.bool r) ∧ Below w.heap.size w w' := by
  have HR0 := Aside0.mk hr0
  have HC0 := Aside0.mk hc0
  clear hr0 hc0
  have HR1 := Aside0.mk hr1
  have HC1 := Aside0.mk hc1
  clear hr1 hc1
  have HB := Aside0.mk (Below.refl w.heap.size w)
  have H : (if (l0.length : Int) = 8 then (notarylaw03_ShaBlocks.j0 k l0 l1 ((l1.length : Int) != 64)) else (notarylaw03_ShaBlocks.j0 k l0 l1 true)) = some r := h
  clear h
  have HC3 := Aside0.mk H
  clear H
  go_enter Try.func4, Try.ntmps4
  go_upto_region 1 with (fail)
  go_cut [12] (fun v12 wc => ∃ (kq : Nat) (x12_2 : Bool), v12 = .bool x12_2 ∧ Aside0 (notarylaw03_ShaBlocks.j0 kq l0 l1 x12_2 = some r) ∧ Aside0 (kq ≤ k) ∧ Aside0 (Below w.heap.size w wc))
  case first =>
    have H := HC3.out
    clear HC3
    by_cases c4 : (l0.length : Int) = 8
    · rw [if_pos c4] at H
      have c4b0 : ((l0.length : Int) == 8) = true := beq_iff_eq.mpr c4
      have c4b1 : ((l0.length : Int) != 8) = false := bne_eq_false_iff_eq.mpr c4
      clear c4
      (first | rw [c4b0] | (simp only [i64_w, i32_w]; rw [c4b0]) | skip)
      have H' := Aside0.mk H
      clear H
      go_wp2
      go_meet
      case rel => exact ⟨_, (((l1.length : Int) != 64)), (by first | rfl | (simp; done) | (simp [*]; done)), H', ⟨by first | omega | exact Nat.le_refl _⟩, ⟨by repeat (first | (with_reducible first | exact HB.out | apply below_alloc | apply pw_below_drewN | apply below_drew1) | exact HB.out)⟩⟩
    · rw [if_neg c4] at H
      have c4b0 : ((l0.length : Int) == 8) = false := beq_eq_false_iff_ne.mpr c4
      have c4b1 : ((l0.length : Int) != 8) = true := bne_iff_ne.mpr c4
      (first | rw [c4b0] | (simp only [i64_w, i32_w]; rw [c4b0]) | skip)
      have H' := Aside0.mk H
      clear H
      go_wp2
      go_meet
      case rel => exact ⟨_, (true), (by first | rfl | (simp; done) | (simp [*]; done)), H', ⟨by first | omega | exact Nat.le_refl _⟩, ⟨by repeat (first | (with_reducible first | exact HB.out | apply below_alloc | apply pw_below_drewN | apply below_drew1) | exact HB.out)⟩⟩
  case rest =>
    clear HC3
    try clear c1
    try clear p2
    try clear c4
    try clear c4b0
    try clear c4b1
    obtain ⟨kq, x12_2, rfl, HA, HJ2, HB⟩ := hcut
    cases kq with
    | zero => exact absurd HA.out (by simp [notarylaw03_ShaBlocks.j0])
    | succ kj2 =>
      have H := HA.out
      clear HA
      simp only [notarylaw03_ShaBlocks.j0] at H
      by_cases c5 : x12_2 = true
      · subst c5
        have H1 : ((sha_Block.f l0 l1).bind fun t249 => (if (t249.length : Int) = 0 then ((sha_Start.f).bind fun t252 => ((notaryref03_Start.f kj2).bind fun t255 => ((notaryref03_Alike.f kj2 t252 t255).bind fun t258 => (some t258)))) else (some false))) = some r := by rw [if_pos rfl] at H; exact H
        clear H
        have H := H1
        clear H1
        replace H := Option.bind_eq_some_iff.mp H
        obtain ⟨t249, A60, H⟩ := H
        replace H : (if (t249.length : Int) = 0 then ((sha_Start.f).bind fun t252 => ((notaryref03_Start.f kj2).bind fun t255 => ((notaryref03_Alike.f kj2 t252 t255).bind fun t258 => (some t258)))) else (some false)) = some r := H
        have A6 := Aside0.mk A60
        clear A60
        by_cases c7 : (t249.length : Int) = 0
        · rw [if_pos c7] at H
          have c7b0 : ((t249.length : Int) == 0) = true := beq_iff_eq.mpr c7
          have c7b1 : ((t249.length : Int) != 0) = false := bne_eq_false_iff_eq.mpr c7
          clear c7
          replace H := Option.bind_eq_some_iff.mp H
          obtain ⟨t252, A80, H⟩ := H
          replace H : ((notaryref03_Start.f kj2).bind fun t255 => ((notaryref03_Alike.f kj2 t252 t255).bind fun t258 => (some t258))) = some r := H
          have A8 := Aside0.mk A80
          clear A80
          replace H := Option.bind_eq_some_iff.mp H
          obtain ⟨t255, A90, H⟩ := H
          replace H : ((notaryref03_Alike.f kj2 t252 t255).bind fun t258 => (some t258)) = some r := H
          have A9 := Aside0.mk A90
          clear A90
          replace H := Option.bind_eq_some_iff.mp H
          obtain ⟨t258, A100, H⟩ := H
          replace H : (some t258) = some r := H
          have A10 := Aside0.mk A100
          clear A100
          obtain rfl := Option.some.inj H
          go_wp2_with (first | ((with_reducible refine gate_callee (f := 13) rfl ?_); refine goesL_ (some 15) rfl rfl Try.func13 (by kernel_rfl) rfl #[.slice A0 l0.length c0, .slice A1 l1.length c1] rfl (by (try simp only [List.map_toArray, List.map_cons, List.map_nil]); first | done | rfl | (simp only [List.length_drop, List.length_take]; rfl)) ?_; (with_reducible refine (sha_Block.calls _ _ l0 _ _ l1 t249 _ ?side1 ?side2 ?side3 ?side4 A6.out).mono ?_); (case side1 => repeat (first | exact (Kd.C_below HR0.out HB.out) | (with_reducible refine Kd.C_alloc ?_ _) | (with_reducible refine Kd.C_drewN ?_ _) | (with_reducible refine Kd.C_drew ?_))); (case side2 => exact HC0.out); (case side3 => repeat (first | exact (Kd.C_below HR1.out HB.out) | (with_reducible refine Kd.C_alloc ?_ _) | (with_reducible refine Kd.C_drewN ?_ _) | (with_reducible refine Kd.C_drew ?_))); (case side4 => exact HC1.out); rintro e w11 ⟨v250, rfl, ho0, hb⟩; refine ⟨_, rfl, ?_⟩; have n0_ := Aside0.mk (Kd.V_lower (Kd.V_mono (ok' := fun k_ => True) ho0 (fun k_ hk_ => trivial)) (below_size (by repeat (first | (with_reducible first | exact HB.out | apply below_alloc | apply pw_below_drewN | apply below_drew1) | exact HB.out)))); have n1_ := Aside0.mk (below_step (by repeat (first | (with_reducible first | exact HB.out | apply below_alloc | apply pw_below_drewN | apply below_drew1) | exact HB.out)) hb); clear HB; have HO251 := n0_; have HB := n1_; clear n0_ n1_; (try clear hb); (try clear hb2); (try clear hk); (try clear hi); (try clear ho0); obtain ⟨Ao12, co12, eo12⟩ := Kd.V_slice HO251.out; subst eo12) | (go_at_call 15; (with_reducible refine (sha_Start.calls  t252 _ A8.out).mono ?_); rintro e w13 ⟨v253, rfl, ho0, hb⟩; have n0_ := Aside0.mk (Kd.V_below (by (with_reducible repeat (first | apply Kd.V_alloc | apply Kd.V_drewN | apply Kd.V_drew)); exact HO251.out) hb); have n1_ := Aside0.mk (Kd.V_lower (Kd.V_mono (ok' := fun k_ => True) ho0 (fun k_ hk_ => trivial)) (below_size (by repeat (first | (with_reducible first | exact HB.out | apply below_alloc | apply pw_below_drewN | apply below_drew1) | exact HB.out)))); have n2_ := Aside0.mk (below_step (by repeat (first | (with_reducible first | exact HB.out | apply below_alloc | apply pw_below_drewN | apply below_drew1) | exact HB.out)) hb); clear HO251; clear HB; have HO251 := n0_; have HO254 := n1_; have HB := n2_; clear n0_ n1_ n2_; (try clear hb); (try clear hb2); (try clear hk); (try clear hi); (try clear ho0)) | (go_at_call 16; (with_reducible refine (notaryref03_Start.calls kj2  t255 _ A9.out).mono ?_); rintro e w14 ⟨v256, rfl, ho0, hb⟩; have n0_ := Aside0.mk (Kd.V_elder' (by (with_reducible repeat (first | apply Kd.V_alloc | apply Kd.V_drewN | apply Kd.V_drew)); exact HO251.out) (Kd.R_base ho0) hb); have n1_ := Aside0.mk (Kd.V_elder' (by (with_reducible repeat (first | apply Kd.V_alloc | apply Kd.V_drewN | apply Kd.V_drew)); exact HO254.out) (Kd.R_base ho0) hb); have n2_ := Aside0.mk (Kd.R_lower ho0 (below_size (by repeat (first | (with_reducible first | exact HB.out | apply below_alloc | apply pw_below_drewN | apply below_drew1) | exact HB.out)))); have n3_ := Aside0.mk (below_step (by repeat (first | (with_reducible first | exact HB.out | apply below_alloc | apply pw_below_drewN | apply below_drew1) | exact HB.out)) hb); clear HO251; clear HO254; clear HB; have HO251 := n0_; have HO254 := n1_; have HO257 := n2_; have HB := n3_; clear n0_ n1_ n2_ n3_; (try clear hb); (try clear hb2); (try clear hk); (try clear hi); (try clear ho0); obtain ⟨Ao15, co15, eo15⟩ := Kd.V_slice HO254.out; subst eo15; obtain ⟨Ao16, co16, eo16⟩ := Kd.R_slice HO257.out; subst eo16) | (go_at_call 14; (with_reducible refine (notaryref03_Alike.calls kj2 _ _ t252 _ _ t255 t258 _ ?side1 ?side2 ?side3 ?side4 A10.out).mono ?_); (case side1 => repeat (first | exact (Kd.V_reads' HO254.out).2.2 | (with_reducible refine Kd.C_alloc ?_ _) | (with_reducible refine Kd.C_drewN ?_ _) | (with_reducible refine Kd.C_drew ?_))); (case side2 => exact (Kd.V_reads' HO254.out).2.1); (case side3 => repeat (first | exact (Kd.R_reads' HO257.out).2.2 | (with_reducible refine Kd.C_alloc ?_ _) | (with_reducible refine Kd.C_drewN ?_ _) | (with_reducible refine Kd.C_drew ?_))); (case side4 => exact (Kd.R_reads' HO257.out).2.1); rintro e w' ⟨rfl, ⟨nd, rfl⟩⟩))
          go_ret
          exact ⟨by first | rfl | (simp [errW_none, errW_some] <;> rfl) | (simp [*, errW_none, errW_some] <;> rfl), by repeat (first | (with_reducible first | exact HB.out | apply below_alloc | apply pw_below_drewN | apply below_drew1) | exact HB.out)⟩
        · rw [if_neg c7] at H
          have c7b0 : ((t249.length : Int) == 0) = false := beq_eq_false_iff_ne.mpr c7
          have c7b1 : ((t249.length : Int) != 0) = true := bne_iff_ne.mpr c7
          have c7b2 : ¬ (t249 = []) := fun h_ => c7 (by rw [h_]; rfl)
          obtain rfl := Option.some.inj H
          go_wp2_with (first | ((with_reducible refine gate_callee (f := 13) rfl ?_); refine goesL_ (some 15) rfl rfl Try.func13 (by kernel_rfl) rfl #[.slice A0 l0.length c0, .slice A1 l1.length c1] rfl (by (try simp only [List.map_toArray, List.map_cons, List.map_nil]); first | done | rfl | (simp only [List.length_drop, List.length_take]; rfl)) ?_; (with_reducible refine (sha_Block.calls _ _ l0 _ _ l1 t249 _ ?side1 ?side2 ?side3 ?side4 A6.out).mono ?_); (case side1 => repeat (first | exact (Kd.C_below HR0.out HB.out) | (with_reducible refine Kd.C_alloc ?_ _) | (with_reducible refine Kd.C_drewN ?_ _) | (with_reducible refine Kd.C_drew ?_))); (case side2 => exact HC0.out); (case side3 => repeat (first | exact (Kd.C_below HR1.out HB.out) | (with_reducible refine Kd.C_alloc ?_ _) | (with_reducible refine Kd.C_drewN ?_ _) | (with_reducible refine Kd.C_drew ?_))); (case side4 => exact HC1.out); rintro e w17 ⟨v250, rfl, ho0, hb⟩; refine ⟨_, rfl, ?_⟩; have n0_ := Aside0.mk (Kd.V_lower (Kd.V_mono (ok' := fun k_ => True) ho0 (fun k_ hk_ => trivial)) (below_size (by repeat (first | (with_reducible first | exact HB.out | apply below_alloc | apply pw_below_drewN | apply below_drew1) | exact HB.out)))); have n1_ := Aside0.mk (below_step (by repeat (first | (with_reducible first | exact HB.out | apply below_alloc | apply pw_below_drewN | apply below_drew1) | exact HB.out)) hb); clear HB; have HO251 := n0_; have HB := n1_; clear n0_ n1_; (try clear hb); (try clear hb2); (try clear hk); (try clear hi); (try clear ho0); obtain ⟨Ao18, co18, eo18⟩ := Kd.V_slice HO251.out; subst eo18))
          go_ret
          exact ⟨by first | rfl | (simp [errW_none, errW_some] <;> rfl) | (simp [*, errW_none, errW_some] <;> rfl), by repeat (first | (with_reducible first | exact HB.out | apply below_alloc | apply pw_below_drewN | apply below_drew1) | exact HB.out)⟩
      · replace c5 := Bool.eq_false_iff.mpr c5
        subst c5
        have H1 : ((sha_Block.f l0 l1).bind fun t259 => ((notaryref03_Rounds.f kj2).bind fun t262 => ((notaryref03_Block.f kj2 l0 l1 t262).bind fun t265 => ((notaryref03_Alike.f kj2 t259 t265).bind fun t268 => (some t268))))) = some r := by rw [if_neg (show ¬ (false = true) by decide)] at H; exact H
        clear H
        have H := H1
        clear H1
        replace H := Option.bind_eq_some_iff.mp H
        obtain ⟨t259, A190, H⟩ := H
        replace H : ((notaryref03_Rounds.f kj2).bind fun t262 => ((notaryref03_Block.f kj2 l0 l1 t262).bind fun t265 => ((notaryref03_Alike.f kj2 t259 t265).bind fun t268 => (some t268)))) = some r := H
        have A19 := Aside0.mk A190
        clear A190
        replace H := Option.bind_eq_some_iff.mp H
        obtain ⟨t262, A200, H⟩ := H
        replace H : ((notaryref03_Block.f kj2 l0 l1 t262).bind fun t265 => ((notaryref03_Alike.f kj2 t259 t265).bind fun t268 => (some t268))) = some r := H
        have A20 := Aside0.mk A200
        clear A200
        replace H := Option.bind_eq_some_iff.mp H
        obtain ⟨t265, A210, H⟩ := H
        replace H : ((notaryref03_Alike.f kj2 t259 t265).bind fun t268 => (some t268)) = some r := H
        have A21 := Aside0.mk A210
        clear A210
        replace H := Option.bind_eq_some_iff.mp H
        obtain ⟨t268, A220, H⟩ := H
        replace H : (some t268) = some r := H
        have A22 := Aside0.mk A220
        clear A220
        obtain rfl := Option.some.inj H
        go_wp2_with (first | ((with_reducible refine gate_callee (f := 13) rfl ?_); refine goesL_ (some 25) rfl rfl Try.func13 (by kernel_rfl) rfl #[.slice A0 l0.length c0, .slice A1 l1.length c1] rfl (by (try simp only [List.map_toArray, List.map_cons, List.map_nil]); first | done | rfl | (simp only [List.length_drop, List.length_take]; rfl)) ?_; (with_reducible refine (sha_Block.calls _ _ l0 _ _ l1 t259 _ ?side1 ?side2 ?side3 ?side4 A19.out).mono ?_); (case side1 => repeat (first | exact (Kd.C_below HR0.out HB.out) | (with_reducible refine Kd.C_alloc ?_ _) | (with_reducible refine Kd.C_drewN ?_ _) | (with_reducible refine Kd.C_drew ?_))); (case side2 => exact HC0.out); (case side3 => repeat (first | exact (Kd.C_below HR1.out HB.out) | (with_reducible refine Kd.C_alloc ?_ _) | (with_reducible refine Kd.C_drewN ?_ _) | (with_reducible refine Kd.C_drew ?_))); (case side4 => exact HC1.out); rintro e w23 ⟨v260, rfl, ho0, hb⟩; refine ⟨_, rfl, ?_⟩; have n0_ := Aside0.mk (Kd.V_lower (Kd.V_mono (ok' := fun k_ => True) ho0 (fun k_ hk_ => trivial)) (below_size (by repeat (first | (with_reducible first | exact HB.out | apply below_alloc | apply pw_below_drewN | apply below_drew1) | exact HB.out)))); have n1_ := Aside0.mk (below_step (by repeat (first | (with_reducible first | exact HB.out | apply below_alloc | apply pw_below_drewN | apply below_drew1) | exact HB.out)) hb); clear HB; have HO261 := n0_; have HB := n1_; clear n0_ n1_; (try clear hb); (try clear hb2); (try clear hk); (try clear hi); (try clear ho0)) | ((with_reducible refine gate_callee (f := 18) rfl ?_); refine goesL_ (some 28) rfl rfl Try.func18 (by kernel_rfl) rfl #[] rfl (by (try simp only [List.map_toArray, List.map_cons, List.map_nil]); first | done | rfl | (simp only [List.length_drop, List.length_take]; rfl)) ?_; (with_reducible refine (notaryref03_Rounds.calls kj2  t262 _ A20.out).mono ?_); rintro e w24 ⟨v263, rfl, ho0, hb⟩; refine ⟨_, rfl, ?_⟩; have n0_ := Aside0.mk (Kd.V_elder' (by (with_reducible repeat (first | apply Kd.V_alloc | apply Kd.V_drewN | apply Kd.V_drew)); exact HO261.out) (Kd.R_base ho0) hb); have n1_ := Aside0.mk (Kd.R_lower ho0 (below_size (by repeat (first | (with_reducible first | exact HB.out | apply below_alloc | apply pw_below_drewN | apply below_drew1) | exact HB.out)))); have n2_ := Aside0.mk (below_step (by repeat (first | (with_reducible first | exact HB.out | apply below_alloc | apply pw_below_drewN | apply below_drew1) | exact HB.out)) hb); clear HO261; clear HB; have HO261 := n0_; have HO264 := n1_; have HB := n2_; clear n0_ n1_ n2_; (try clear hb); (try clear hb2); (try clear hk); (try clear hi); (try clear ho0); obtain ⟨Ao25, co25, eo25⟩ := Kd.R_slice HO264.out; subst eo25) | ((with_reducible refine gate_callee (f := 17) rfl ?_); refine goesL_ (some 29) rfl rfl Try.func17 (by kernel_rfl) rfl #[.slice A0 l0.length c0, .slice A1 l1.length c1, .slice Ao25 t262.length co25] rfl (by (try simp only [List.map_toArray, List.map_cons, List.map_nil]); first | done | rfl | (simp only [List.length_drop, List.length_take]; rfl)) ?_; (with_reducible refine (notaryref03_Block.calls kj2 _ _ l0 _ _ l1 _ _ t262 t265 _ ?side1 ?side2 ?side3 ?side4 ?side5 ?side6 A21.out).mono ?_); (case side1 => repeat (first | exact (Kd.C_below HR0.out HB.out) | (with_reducible refine Kd.C_alloc ?_ _) | (with_reducible refine Kd.C_drewN ?_ _) | (with_reducible refine Kd.C_drew ?_))); (case side2 => exact HC0.out); (case side3 => repeat (first | exact (Kd.C_below HR1.out HB.out) | (with_reducible refine Kd.C_alloc ?_ _) | (with_reducible refine Kd.C_drewN ?_ _) | (with_reducible refine Kd.C_drew ?_))); (case side4 => exact HC1.out); (case side5 => repeat (first | exact (Kd.R_reads' HO264.out).2.2 | (with_reducible refine Kd.C_alloc ?_ _) | (with_reducible refine Kd.C_drewN ?_ _) | (with_reducible refine Kd.C_drew ?_))); (case side6 => exact (Kd.R_reads' HO264.out).2.1); rintro e w26 ⟨v266, rfl, ho0, hb⟩; refine ⟨_, rfl, ?_⟩; have n0_ := Aside0.mk (Kd.V_elder' (by (with_reducible repeat (first | apply Kd.V_alloc | apply Kd.V_drewN | apply Kd.V_drew)); exact HO261.out) (Kd.R_base ho0) hb); have n1_ := Aside0.mk (Kd.R_elder' (by (with_reducible repeat (first | apply Kd.R_alloc | apply Kd.R_drewN | apply Kd.R_drew)); exact HO264.out) (Kd.R_base ho0) hb); have n2_ := Aside0.mk (Kd.R_lower (Kd.R_new' ho0 (Kd.R_lt (by (with_reducible repeat (first | apply Kd.R_alloc | apply Kd.R_drewN | apply Kd.R_drew)); exact HO264.out))) (below_size (by repeat (first | (with_reducible first | exact HB.out | apply below_alloc | apply pw_below_drewN | apply below_drew1) | exact HB.out)))); have n3_ := Aside0.mk (below_step (by repeat (first | (with_reducible first | exact HB.out | apply below_alloc | apply pw_below_drewN | apply below_drew1) | exact HB.out)) hb); clear HO261; clear HO264; clear HB; have HO261 := n0_; have HO264 := n1_; have HO267 := n2_; have HB := n3_; clear n0_ n1_ n2_ n3_; (try clear hb); (try clear hb2); (try clear hk); (try clear hi); (try clear ho0); obtain ⟨Ao27, co27, eo27⟩ := Kd.V_slice HO261.out; subst eo27; obtain ⟨Ao28, co28, eo28⟩ := Kd.R_slice HO267.out; subst eo28) | ((with_reducible refine gate_callee (f := 14) rfl ?_); refine goesL_ (some 30) rfl rfl Try.func14 (by kernel_rfl) rfl #[.slice Ao27 t259.length co27, .slice Ao28 t265.length co28] rfl (by (try simp only [List.map_toArray, List.map_cons, List.map_nil]); first | done | rfl | (simp only [List.length_drop, List.length_take]; rfl)) ?_; (with_reducible refine (notaryref03_Alike.calls kj2 _ _ t259 _ _ t265 t268 _ ?side1 ?side2 ?side3 ?side4 A22.out).mono ?_); (case side1 => repeat (first | exact (Kd.V_reads' HO261.out).2.2 | (with_reducible refine Kd.C_alloc ?_ _) | (with_reducible refine Kd.C_drewN ?_ _) | (with_reducible refine Kd.C_drew ?_))); (case side2 => exact (Kd.V_reads' HO261.out).2.1); (case side3 => repeat (first | exact (Kd.R_reads' HO267.out).2.2 | (with_reducible refine Kd.C_alloc ?_ _) | (with_reducible refine Kd.C_drewN ?_ _) | (with_reducible refine Kd.C_drew ?_))); (case side4 => exact (Kd.R_reads' HO267.out).2.1); rintro e w' ⟨rfl, ⟨nd, rfl⟩⟩; refine ⟨_, rfl, ?_⟩))
        go_ret
        exact ⟨by first | rfl | (simp [errW_none, errW_some] <;> rfl) | (simp [*, errW_none, errW_some] <;> rfl), by repeat (first | (with_reducible first | exact HB.out | apply below_alloc | apply pw_below_drewN | apply below_drew1) | exact HB.out)⟩

/-- THE ONE PURE STATEMENT of notarylaw03_ShaBlocks: yours. -/
def notarylaw03_ShaBlocks.Pure : Prop := ∀ (l0 : List Int) (l1 : List Int), l0.length ≤ maxLen → l0.length * 4 ≤ 140737488351232 → (∀ x ∈ l0, (Lit.int .u32 x).wf = true) → l1.length ≤ maxLen → l1.length * 1 ≤ 140737488351232 → (∀ x ∈ l1, (Lit.int .u8 x).wf = true) → ∃ k, notarylaw03_ShaBlocks.f k l0 l1 = some true
theorem notarylaw03_ShaBlocks.walk (P : notarylaw03_ShaBlocks.Pure) (a0 : Option Addr) (len0 cap0 : Nat) (z0 : List Int) (a1 : Option Addr) (len1 cap1 : Nat) (z1 : List Int) (w : World) (w0 : (a0 = none ∧ len0 = 0 ∧ cap0 = 0 ∧ z0 = []) ∨ ∃ x, a0 = some x ∧ len0 ≤ cap0 ∧ cap0 ≤ maxLen ∧ z0.length = cap0 ∧ (∀ i, i < z0.length → w.cell? (x.add i) = some (.int .u32 (z0.getD i 0))) ∧ ∀ n ∈ z0, (Lit.int .u32 n).wf = true) (y0 : len0 * 4 ≤ 140737488351232) (w1 : (a1 = none ∧ len1 = 0 ∧ cap1 = 0 ∧ z1 = []) ∨ ∃ x, a1 = some x ∧ len1 ≤ cap1 ∧ cap1 ≤ maxLen ∧ z1.length = cap1 ∧ (∀ i, i < z1.length → w.cell? (x.add i) = some (.int .u8 (z1.getD i 0))) ∧ ∀ n ∈ z1, (Lit.int .u8 n).wf = true) (y1 : len1 * 1 ≤ 140737488351232) :
    Calls Try.prog 4 #[.slice a0 len0 cap0, .slice a1 len1 cap1] w fun e w' => e = .returned (.bool true) ∧ Below w.heap.size w w' := by
  obtain ⟨l0, rfl, hr0, hm0, hw0, hc0⟩ := ReadsInt.ofRowC w0
  obtain ⟨l1, rfl, hr1, hm1, hw1, hc1⟩ := ReadsInt.ofRowC w1
  obtain ⟨k, h⟩ := P l0 l1 hm0 y0 hw0 hm1 y1 hw1
  refine (notarylaw03_ShaBlocks.calls k _ _ l0 _ _ l1 true w (Kd.C_of_reads (d := (0 : Int)) (h1 := fun _ => rfl) hr0) hc0 (Kd.C_of_reads (d := (0 : Int)) (h1 := fun _ => rfl) hr1) hc1 h).mono ?_
  rintro e w' ⟨rfl, hd⟩
  exact ⟨rfl, hd⟩

/-! ### sha_Sum: function 19 (given) -/
def sha_Sum.run (kk : List Int) : Nat → List Int → sha_behind.St → Option sha_behind.St
  | 0, _, s => some s
  | q + 1, l, s => (sha_spread.f (l.take 64)).bind fun ws => (sha_behind.rnds kk ws s).bind fun x => sha_Sum.run kk q (l.drop 64) (sha_Block.st (sha_behind.add x s))
def sha_Sum.bytes (x : Int) : List Int := [x / 16777216 % 256, x / 65536 % 256, x / 256 % 256, x % 256]
def sha_Sum.f (k : Nat) (l : List Int) : Option (List Int) :=
  if l.length < 100000000000000 then
    sha_rounds.f.bind fun kk => sha_first.f.bind fun s0 => (sha_Sum.run kk (l.length / 64) l (sha_Block.st s0)).bind fun s1 => (sha_Tail.f k (l.length : Int)).bind fun tl =>
      if (l.drop (l.length / 64 * 64) ++ tl).length % 64 = 0 ∧ tl.length < 1000 then
        (sha_Sum.run kk ((l.drop (l.length / 64 * 64) ++ tl).length / 64) (l.drop (l.length / 64 * 64) ++ tl) s1).bind fun s2 => some (s2.list.flatMap sha_Sum.bytes)
      else none
  else none
theorem sha_Sum.mono : ∀ a0 k, LeO (sha_Sum.f k a0) (sha_Sum.f (k + 1) a0) := by
  intro a0 k
  unfold sha_Sum.f
  refine LeO.ite ?_ (LeO.none _)
  refine LeO.bind (LeO.refl _) (fun _ => ?_)
  refine LeO.bind (LeO.refl _) (fun _ => ?_)
  refine LeO.bind (LeO.refl _) (fun _ => ?_)
  exact LeO.bind (sha_Tail.mono _ _) (fun _ => LeO.refl _)
theorem sha_Sum.keep_row {W w2 : World} {g base : Nat} {v : Value} {xs : List Int} {old : Array Value} {ok : Nat → Prop} (h : Kd.R (Kd.int .u8) 5 W base ok v xs) (hg : W.heap[g]? = some (.cells old 41 (0, 0))) (ho : ∀ k, k ≠ g → w2.heap[k]? = W.heap[k]?) : Kd.R (Kd.int .u8) 5 w2 base ok v xs := by
  refine Kd.R_mono (Kd.R_step (Kd.R_bound h) (fun k hk _ => ho k ?_)) (fun _ hk => hk.1)
  rintro rfl
  obtain ⟨_, _, _, q, hq, cells, hc⟩ := hk
  rw [hg] at hc
  injection hc with hc
  injection hc with _ ht
  subst ht
  exact absurd hq (by decide)
theorem sha_Sum.C_grown {W w1 : World} {A : Option Addr} {n : Nat} {xs : List Int} (h : Kd.C (Kd.int .u8) W A n xs) (hg : W.grownBy w1 none) : Kd.C (Kd.int .u8) w1 A n xs :=
  Kd.C_below h ⟨hg.os, hg.tape, hg.output, hg.size, fun k hk => hg.block k hk (by simp)⟩
theorem sha_Sum.ne_own {W : World} {g base : Nat} {v : Value} {xs : List Int} {cs : Array Value} {t : TypeId} {ok : Nat → Prop} (h : Kd.R (Kd.int .u8) 5 W base ok v xs) (hg : W.heap[g]? = some (.cells cs t (0, 0))) (hne : 5 ≠ t) : some g ≠ v.ownBlock := by
  obtain ⟨_, inner, ho, _⟩ := h
  exact own_ne ho hg hne
theorem sha_Sum.make0 (W : World) (base : Nat) (hb : base ≤ W.heap.size) : ∃ w', (Instr.makeSlice 22 (.int .i64 0) (.int .i64 32)).run Try.prog W = .ok (.slice (some ⟨W.heap.size, 0, none⟩) 0 32) w' ∧ Kd.R (Kd.int .u8) 5 w' base (fun _ => True) (.slice (some ⟨W.heap.size, 0, none⟩) 0 32) [] ∧ W.grownBy w' none := by
  obtain ⟨i0, hi0, hz, hsz, hby⟩ := info_parts info5
  obtain ⟨w', h1, h2, h3⟩ := run_make_own (P := Try.prog) W base 22 5 i0 _ 1 Try.underlying22 hi0 hz hsz .i64 .i64 32 (by omega) (by simp [maxLen]) hb
  exact ⟨w', h1, ⟨fun _ _ => trivial, [], h2, Reps.none _ _⟩, h3⟩
theorem sha_Sum.index (s : sha_behind.St) (o : Nat) (h : o < 8) : ∀ W : World, (Instr.index 41 (.agg s.cells) (.int .i64 (o : Int))).run Try.prog W = .ok (.int .u32 (rd s.list (o : Int))) W := by
  intro W
  obtain ⟨i0, hi0, hz, hsz, hby⟩ := info_parts info34
  have hu := Try.underlying41
  have hu2 := Try.underlying34
  have hc : s.cells[o]? = some (.int .u32 (rd s.list (o : Int))) := by
    rw [← sha_behind.St.cells_eq, sha_rounds.arr_get _ _ _ (by simpa [sha_behind.St.list] using h), sha_spread.rd_get s.list o o (by omega) (by simpa [sha_behind.St.list] using h)]
  simp [Instr.index, asIntOf, run_underlying hu, run_underlying hu2, sizeOf, typeInfo, hi0, hsz, h, part, isAgg, hc]
theorem sha_Sum.bytes_length (l : List Int) : (l.flatMap sha_Sum.bytes).length = 4 * l.length := by
  induction l with
  | nil => rfl
  | cons a l ih => rw [List.flatMap_cons, List.length_append, ih]; simp [sha_Sum.bytes]; omega
theorem sha_Sum.step (s : sha_behind.St) (o : Nat) (h : o < 8) : (s.list.take (o + 1)).flatMap sha_Sum.bytes = (s.list.take o).flatMap sha_Sum.bytes ++ sha_Sum.bytes (rd s.list (o : Int)) := by
  match o, h with
  | 0, _ => rfl
  | 1, _ => rfl
  | 2, _ => rfl
  | 3, _ => rfl
  | 4, _ => rfl
  | 5, _ => rfl
  | 6, _ => rfl
  | 7, _ => rfl
/-- a whole array read, in a region that draws its order -/
theorem sha_Sum.still_load {P : Program} {ops : Array Oper} {rest : List Oper} {o : Oper} {a : Act} {w : World} {Q : Act → Prop} (hgd : Region.wanted o (yielded ops a.tmps) = true) (ty : TypeId) (x : Operand) (ho : o.op = .load ty x)
    (g : Nat) (hx : a.eval x = .pointer (some ⟨g, 0, none⟩)) (t : TypeId) (cs : Array Value) (n : Nat) (el : TypeId) (hg : w.heap[g]? = some (.cells cs t (0, 0)))
    (hu : P.underlying ty = some (.array n el)) (hi : (P.info? ty).map (·.size) = some cs.size)
    (h : wpStill P ops w Q rest (a.put o.dst (.agg cs))) : wpStill P ops w Q (o :: rest) a := by
  refine wpStill_step (fun K hK => ?_)
  rw [if_pos hgd]
  unfold Oper.still execOp
  simp only [ho, hx, Instr.loadAt, Instr.sureAddr, Sem.run_bind, Sem.run_pure, Result.andThen_ok, run_loadVar_row w g t ty cs (0, 0) (.array n el) hg hu rfl hi]
  exact (Oper.stillUpon_value _ _ _ _ _).symm ▸ hK _ h
theorem sha_Sum.add_len (x s : sha_behind.St) : (sha_behind.add x s).length = 8 := by simp [sha_behind.add, sha_behind.St.list]
theorem sha_Sum.add_size (x s : sha_behind.St) : (Try.prog.info? 41).map (·.size) = some (nums .u32 (sha_behind.add x s)).toArray.size := by
  rw [show (Try.prog.info? 41).map (·.size) = some 8 from by kernel_rfl]; simp [nums, sha_Sum.add_len]
theorem sha_Sum.take_drop (l : List Int) (j : Nat) : (l.take (64 * j + 64)).drop (64 * j) = (l.drop (64 * j)).take 64 := by
  rw [List.drop_take]; congr 1; omega
set_option maxHeartbeats 8000000 in
set_option maxRecDepth 100000 in
theorem sha_Sum.calls (k : Nat) (A0 : Option Addr) (c0 : Nat) (l0 : List Int) (r : List Int) (w : World) (hr0 : Kd.C (Kd.int .u8) w A0 l0.length l0) (hc0 : l0.length ≤ c0) (h : sha_Sum.f k l0 = some r) :
    Calls Try.prog 19 #[.slice A0 l0.length c0] w fun e w' => ∃ v0_ : Value, e = .returned (v0_) ∧ Kd.R (Kd.int .u8) 5 w' w.heap.size (fun _ => True) v0_ r ∧ Below w.heap.size w w' := by
  have HR := Aside0.mk hr0
  have HC := Aside0.mk hc0
  have hf := h
  clear hr0 hc0 h
  unfold sha_Sum.f at hf
  by_cases hbig : l0.length < 100000000000000
  case neg => rw [if_neg hbig] at hf; exact absurd hf (by simp)
  rw [if_pos hbig] at hf
  obtain ⟨kk, hkk, hf1⟩ := Option.bind_eq_some_iff.mp hf
  obtain ⟨s0, hs0, hf2⟩ := Option.bind_eq_some_iff.mp hf1
  obtain ⟨s1, hs1, hf3⟩ := Option.bind_eq_some_iff.mp hf2
  obtain ⟨tl, htl, hf4⟩ := Option.bind_eq_some_iff.mp hf3
  by_cases hmod : (l0.drop (l0.length / 64 * 64) ++ tl).length % 64 = 0 ∧ tl.length < 1000
  case neg => rw [if_neg hmod] at hf4; exact absurd hf4 (by simp)
  rw [if_pos hmod] at hf4
  obtain ⟨s2, hs2, hf5⟩ := Option.bind_eq_some_iff.mp hf4
  obtain rfl := Option.some.inj hf5
  have HKK := Aside0.mk hkk
  have HKL := Aside0.mk (sha_rounds.len64 hkk)
  have HS0 := Aside0.mk hs0
  have HS8 := Aside0.mk (sha_first.len8 hs0)
  have HS1 := Aside0.mk hs1
  have HTL := Aside0.mk htl
  have HMOD := Aside0.mk hmod
  have HS2 := Aside0.mk hs2
  clear hf hf1 hf2 hf3 hf4 hf5 hkk hs0 hs1 htl hmod hs2
  obtain ⟨n, hn⟩ : ∃ n, n = l0.length / 64 := ⟨_, rfl⟩
  rw [← hn] at HS1 HMOD HS2
  have hnw : IntKind.i64.wrap ((l0.length : Int) - Int.tmod (l0.length : Int) 64) = 64 * (n : Int) := by
    rw [Int.tmod_eq_emod_of_nonneg (by omega)]
    rw [IntWalk.i64_in _ (by omega)]
    omega
  go_enter Try.func19, Try.ntmps19
  go_wp2_with (first | (go_at_call 24; (with_reducible refine (sha_rounds.calls kk _ HKK.out).mono ?_); rintro e w1 ⟨rfl, hb⟩; have HB := Aside0.mk hb; clear hb) | ((refine sha_behind.put_row (w0 := w) rfl 38 (.tmp 3) (.tmp 12) rfl w1.heap.size _ rfl rfl 38 _ (blk_new _ _) (sha_rounds.size kk HKL.out) (by have := HKL.out; simp [nums, this]) (sha_rounds.ones _ _) (below_alloc HB.out _) (below_size HB.out) ?_); intro w2 hg2 ho2 hz2 hb2; (have HK2 : Aside0 (sha_rounds.Blk w2 w1.heap.size kk) := ⟨⟨hg2⟩⟩); (have HB2 : Aside0 (Below w.heap.size w w2) := ⟨hb2⟩); (have HZ2 : Aside0 (w2.heap.size = w1.heap.size + 1) := ⟨by rw [hz2]; simp⟩); clear hg2 ho2 hz2 hb2) | (go_at_call 26; (with_reducible refine (sha_first.calls s0 _ HS0.out).mono ?_); rintro e w3 ⟨rfl, hb⟩; have HB3 := Aside0.mk (below_step HB2.out hb); (have HK3 : Aside0 (sha_rounds.Blk w3 w1.heap.size kk) := ⟨⟨blk_below HK2.out.out hb⟩⟩); (have HZ3 : Aside0 (w1.heap.size < w3.heap.size) := ⟨by have := hb.size; have := HZ2.out; omega⟩); clear hb) | ((refine sha_behind.put_row (w0 := w) rfl 41 (.tmp 4) (.tmp 13) rfl w3.heap.size _ rfl rfl 41 _ (blk_new _ _) (sha_first.size s0 HS8.out) (by have := HS8.out; simp [nums, this]) (sha_rounds.ones _ _) (below_alloc HB3.out _) (below_size HB3.out) ?_); intro w4 hg4 ho4 hz4 hb4; (have HX4 : Aside0 (sha_behind.Blk w4 w3.heap.size (sha_Block.st s0)) := ⟨⟨by rw [← sha_behind.St.cells_eq, sha_Block.st_list HS8.out]; exact hg4⟩⟩); (have HK4 : Aside0 (sha_rounds.Blk w4 w1.heap.size kk) := ⟨⟨(ho4 _ (by have := HZ3.out; omega)).trans (blk_alloc HK3.out.out _)⟩⟩); (have HB4 : Aside0 (Below w.heap.size w w4) := ⟨hb4⟩); clear hg4 ho4 hz4 hb4))
  have hne : ((l0.length : Int) - (l0.length : Int) % 64) = 64 * (n : Int) := by omega
  rw [hne]
  clear hne hnw
  obtain ⟨g0, hg0⟩ : ∃ g0, g0 = w1.heap.size := ⟨_, rfl⟩
  obtain ⟨g1, hg1⟩ : ∃ g1, g1 = w3.heap.size := ⟨_, rfl⟩
  have HG : Aside0 (w.heap.size ≤ g0 ∧ g0 < g1) := ⟨by have := HB.out.size; have := HZ3.out; omega⟩
  rw [← hg0, ← hg1]
  rw [← hg0] at HK4
  rw [← hg1] at HX4
  have HN : Aside0 (n = l0.length / 64) := ⟨hn⟩
  clear hg0 hg1 HZ2 HZ3 HK2 HK3 HB HB2 HB3 hn
  go_loopg [6] n (fun q v6 w' => ∃ (j : Nat) (s : sha_behind.St), v6 = .int .i64 (64 * (j : Int)) ∧ j + q = n ∧ Aside0 (sha_Sum.run kk q (l0.drop (64 * j)) s = some s1) ∧ Aside0 (sha_behind.Blk w' g1 s) ∧ Aside0 (sha_rounds.Blk w' g0 kk) ∧ Aside0 (Below w.heap.size w w'))
  case atStart => exact ⟨0, _, by go_num, by omega, HS1, HX4, HK4, HB4⟩
  case round =>
    clear HX4 HK4 HB4 HS1
    obtain ⟨j, s, rfl, hjq, HM, HX, HK, HB⟩ := hrel
    cases gk with
    | zero =>
      obtain rfl : j = n := by omega
      have hjb : decide ((64 * (j : Int)) < 64 * (j : Int)) = false := by simp
      have hm := HM.out
      simp only [sha_Sum.run] at hm
      obtain rfl := Option.some.inj hm
      clear hm HM
      obtain ⟨rest, hrest⟩ : ∃ rest, rest = l0.drop (64 * j) := ⟨_, rfl⟩
      have hC := Kd.C_below HR.out HB.out
      have hle : 64 * j ≤ l0.length := by have := HN.out; omega
      have hrl : rest.length < 64 := by have := HN.out; rw [hrest, List.length_drop]; omega
      have hr := Kd.C_drop hC hle HC.out
      obtain ⟨i0, hi0, _, hsz, _⟩ := info_parts info5
      have hcut := cut_from (P := Try.prog) 22 5 .i64 Try.underlying22 hi0 1 hsz A0 l0.length c0 (64 * (j : Int)) (by omega) (by omega)
      rw [show (64 * (j : Int)).toNat = 64 * j by omega] at hcut
      obtain ⟨A1, hA1⟩ : ∃ A1, A1 = (if c0 = 64 * j then A0 else A0.map (·.add (64 * j * 1))) := ⟨_, rfl⟩
      obtain ⟨c1, hc1⟩ : ∃ c1, c1 = c0 - 64 * j := ⟨_, rfl⟩
      rw [← hA1, ← hc1] at hcut
      rw [← hrest] at hr
      rw [show l0.length - 64 * j = rest.length by rw [hrest, List.length_drop]] at hcut
      have HRB : Aside0 (Kd.C (Kd.int .u8) wr A1 rest.length rest) := ⟨by rw [hA1]; exact hr⟩
      have HC1 : Aside0 (rest.length ≤ c1) := ⟨by rw [hrest, hc1, List.length_drop]; have := HC.out; omega⟩
      have HMOD2 : Aside0 ((rest ++ tl).length % 64 = 0 ∧ tl.length < 1000 ∧ rest.length < 64) := ⟨by rw [hrest]; have := HMOD.out; rw [Nat.mul_comm j 64] at this; exact ⟨this.1, this.2, by rw [← hrest]; exact hrl⟩⟩
      have HS22 : Aside0 (sha_Sum.run kk ((rest ++ tl).length / 64) (rest ++ tl) s = some s2) := ⟨by rw [hrest]; have := HS2.out; rw [Nat.mul_comm j 64] at this; exact this⟩
      clear hC hr hi0 hsz hA1 hc1 hrest HMOD HS2 hrl
      go_wp2_with (first | ((with_reducible refine gate_dst (N := 32) rfl ?_); refine Kd.R_lit (Kd.int .u8) _ 5 ?hg (N := 32) ?hd (xs := ([] : List Int)) (inner := []) (ok := fun _ => True) (okp := fun _ => True) ?hr ?hp (fun _ hk => hk) trivial HB.out HB.out.size (by simp) ?_; (case hd => rfl); (case hg => rfl); (case hr => first | (go_simp; done) | (go_simp; rfl)); (case hp => exact (Reps.none _ _)); intro v1 w5 ho5 hb5 hg5 hat5; (have HX5 : Aside0 (sha_behind.Blk w5 g1 s) := ⟨⟨blk_grown HX.out.out hg5 (by simp)⟩⟩); (have HK5 : Aside0 (sha_rounds.Blk w5 g0 kk) := ⟨⟨blk_grown HK.out.out hg5 (by simp)⟩⟩); (have HO5 : Aside0 (Kd.R (Kd.int .u8) 5 w5 w.heap.size (fun _ => True) v1 []) := ⟨ho5⟩); (have HB5 : Aside0 (Below w.heap.size w w5) := ⟨hb5⟩); (have HRB5 : Aside0 (Kd.C (Kd.int .u8) w5 A1 rest.length rest) := ⟨sha_Sum.C_grown HRB.out hg5⟩); clear ho5 hb5 hg5 hat5 HX HK HB HRB) | ((with_reducible refine gate_builtin (b := .append) (xs := #[.tmp 32, .tmp 35]) rfl ?_); at_builtin; refine Kd.R_append_rows (Kd.int .u8) (w0 := w) w.heap.size rfl (.tmp 32) (.tmp 35) 22 5 (.int .u8 0) 1 rfl Try.underlying22 info5 rfl (by decide) (by omega) v1 ([] : List Int) rest _ _ _ (fun _ => True) (fun _ => False) rfl rfl HO5.out HRB5.out (fun _ _ h => h) (fun _ h => h.elim) (fun _ _ => trivial) HB5.out HB5.out.size (by have := HMOD2.out; simp; omega) ?_; intro v2 w6 ho6 hb6 hg6 hat6; (have HX6 : Aside0 (sha_behind.Blk w6 g1 s) := ⟨⟨blk_grown HX5.out.out hg6 (sha_Sum.ne_own HO5.out HX5.out.out (by decide))⟩⟩); (have HK6 : Aside0 (sha_rounds.Blk w6 g0 kk) := ⟨⟨blk_grown HK5.out.out hg6 (sha_Sum.ne_own HO5.out HK5.out.out (by decide))⟩⟩); (have HO6 : Aside0 (Kd.R (Kd.int .u8) 5 w6 w.heap.size (fun _ => True) v2 rest) := ⟨ho6⟩); (have HB6 : Aside0 (Below w.heap.size w w6) := ⟨hb6⟩); clear ho6 hb6 hg6 hat6 HX5 HK5 HB5 HRB5 HO5) | (go_at_call 10; (with_reducible refine (sha_Tail.calls k _ tl _ HTL.out).mono ?_); rintro e w7 ⟨v3, rfl, ho7, hb7⟩; (have HX7 : Aside0 (sha_behind.Blk w7 g1 s) := ⟨⟨blk_below HX6.out.out hb7⟩⟩); (have HK7 : Aside0 (sha_rounds.Blk w7 g0 kk) := ⟨⟨blk_below HK6.out.out hb7⟩⟩); (have HO7 : Aside0 (Kd.R (Kd.int .u8) 5 w7 w.heap.size (fun _ => True) v2 rest) := ⟨Kd.R_below HO6.out hb7⟩); (have HB7 : Aside0 (Below w.heap.size w w7) := ⟨below_step HB6.out hb7⟩); (obtain ⟨A3, c3, e3⟩ := Kd.R_slice ho7); (have HT7 : Aside0 (Kd.C (Kd.int .u8) w7 A3 tl.length tl ∧ ∀ k, A3.map (·.block) = some k → True) := ⟨by rw [e3] at ho7; exact ⟨(Kd.R_reads' ho7).2.2, fun _ _ => trivial⟩⟩); subst e3; clear ho7 hb7 HX6 HK6 HB6 HO6) | ((with_reducible refine gate_builtin (b := .append) (xs := #[.tmp 37, .tmp 40]) rfl ?_); at_builtin; refine Kd.R_append_rows (Kd.int .u8) (w0 := w) w.heap.size rfl (.tmp 37) (.tmp 40) 22 5 (.int .u8 0) 1 rfl Try.underlying22 info5 rfl (by decide) (by omega) v2 rest tl _ _ _ (fun _ => True) (fun _ => False) rfl rfl HO7.out HT7.out.1 (fun _ _ h => h) (fun _ h => h.elim) (fun _ _ => trivial) HB7.out HB7.out.size (by have := HMOD2.out; omega) ?_; intro v4 w8 ho8 hb8 hg8 hat8; (have HX8 : Aside0 (sha_behind.Blk w8 g1 s) := ⟨⟨blk_grown HX7.out.out hg8 (sha_Sum.ne_own HO7.out HX7.out.out (by decide))⟩⟩); (have HK8 : Aside0 (sha_rounds.Blk w8 g0 kk) := ⟨⟨blk_grown HK7.out.out hg8 (sha_Sum.ne_own HO7.out HK7.out.out (by decide))⟩⟩); (have HO8 : Aside0 (Kd.R (Kd.int .u8) 5 w8 w.heap.size (fun _ => True) v4 (rest ++ tl)) := ⟨ho8⟩); (have HB8 : Aside0 (Below w.heap.size w w8) := ⟨hb8⟩); clear ho8 hb8 hg8 hat8 HX7 HK7 HB7 HT7 HO7))
      obtain ⟨al, hal⟩ : ∃ al, al = rest ++ tl := ⟨_, rfl⟩
      obtain ⟨m, hm⟩ : ∃ m, m = al.length / 64 := ⟨_, rfl⟩
      have HS23 : Aside0 (sha_Sum.run kk m al s = some s2) := ⟨by rw [hm, hal]; exact HS22.out⟩
      have hl1 : (rest ++ tl).length = rest.length + tl.length := by simp
      have HAL : Aside0 (al.length = 64 * m ∧ al.length < 2000) := ⟨by
        have := HMOD2.out
        rw [← hal] at this hl1
        omega⟩
      clear hl1
      rw [← hal] at HO8
      clear hal hm HS22 HMOD2 hcut HC1
      obtain ⟨wo, rfl⟩ : ∃ wo : World, wo = wr := ⟨_, rfl⟩
      obtain ⟨A2, c2, e2⟩ := Kd.R_slice HO8.out
      subst e2
      have HC2 : Aside0 (al.length ≤ c2) := ⟨(Kd.R_reads' HO8.out).2.1⟩
      go_loopg [8] m (fun q v8 w' => ∃ (i : Nat) (s : sha_behind.St), v8 = .int .i64 (64 * (i : Int)) ∧ i + q = m ∧ Aside0 (sha_Sum.run kk q (al.drop (64 * i)) s = some s2) ∧ Aside0 (sha_behind.Blk w' g1 s) ∧ Aside0 (sha_rounds.Blk w' g0 kk) ∧ Aside0 (Kd.R (Kd.int .u8) 5 w' w.heap.size (fun _ => True) (.slice A2 al.length c2) al) ∧ Aside0 (Below w.heap.size w w'))
      case atStart => exact ⟨0, _, by go_num, by omega, HS23, HX8, HK8, HO8, HB8⟩
      case round =>
        clear HX8 HK8 HB8 HO8 HS23
        obtain ⟨i, s, rfl, hiq, HM, HX, HK, HO, HB⟩ := hrel
        cases gk with
        | zero =>
          obtain rfl : i = m := by omega
          have hal := HAL.out.1
          have hjb : decide ((64 * (i : Int)) < (al.length : Int)) = false := decide_eq_false (by omega)
          have hm := HM.out
          simp only [sha_Sum.run] at hm
          obtain rfl := Option.some.inj hm
          clear hm HM hal
          obtain ⟨w5, hmk, ho5, hg5⟩ := sha_Sum.make0 wr w.heap.size HB.out.size
          have HX5 : Aside0 (sha_behind.Blk w5 g1 s) := ⟨⟨blk_grown HX.out.out hg5 (by simp)⟩⟩
          have HO5 := Aside0.mk ho5
          have HB5 : Aside0 (Below w.heap.size w w5) := ⟨HB.out.grown hg5 HB.out.size (by simp)⟩
          clear HX HK HO HB ho5 hg5
          go_wp2_with (refine wpList_load_row rfl 41 (.tmp 4) rfl g1 rfl 41 _ (0, 0) _ HX5.out.out Try.underlying41 rfl (sha_behind.size s) ?_)
          clear hmk
          obtain ⟨w6, rfl⟩ : ∃ wo : World, wo = wr := ⟨_, rfl⟩
          go_loopg [9, 57] 8 (fun q v9 v57 w' => ∃ (o : Nat), v57 = .int .i64 (o : Int) ∧ o + q = 8 ∧ Aside0 (Kd.R (Kd.int .u8) 5 w' w.heap.size (fun _ => True) v9 ((s.list.take o).flatMap sha_Sum.bytes)) ∧ Aside0 (Below w.heap.size w w'))
          case atStart => exact ⟨0, by go_num, by omega, HO5, HB5⟩
          case round =>
            clear HO5 HB5
            obtain ⟨o, rfl, hoq, HO, HB⟩ := hrel
            cases gk with
            | zero =>
              obtain rfl : o = 8 := by omega
              have hjb : decide (((8 : Nat) : Int) < 8) = false := by decide
              go_wp2
              go_ret
              exact ⟨_, rfl, by have := HO.out; rw [List.take_of_length_le (by simp [sha_behind.St.list])] at this; exact this, HB.out⟩
            | succ q =>
              have hjn : (o : Int) < 8 := by omega
              have hjb : decide ((o : Int) < 8) = true := decide_eq_true hjn
              have hidx := sha_Sum.index s o (by omega)
              have hstep := sha_Sum.step s o (by omega)
              have HST := Aside0.mk hstep
              have HTL2 : Aside0 (((s.list.take o).flatMap sha_Sum.bytes).length = 4 * o) := ⟨by rw [sha_Sum.bytes_length, List.length_take]; simp [sha_behind.St.list]; omega⟩
              clear hstep
              generalize (s.list.take o).flatMap sha_Sum.bytes = d at *
              generalize rd s.list (o : Int) = z at *
              go_wp2_with (first | ((with_reducible refine gate_dst (N := 72) rfl ?_); refine Kd.R_lit (Kd.int .u8) w.heap.size 5 ?hg (N := 72) ?hd (xs := sha_Sum.bytes z) (inner := nums .u8 (sha_Sum.bytes z)) (ok := fun _ => True) (okp := fun _ => True) ?hr ?hp (fun _ hk => hk) trivial HB.out HB.out.size (by simp [sha_Sum.bytes]) ?_; (case hd => rfl); (case hg => rfl); (case hr => (go_simp; exact ⟨rfl, rfl⟩)); (case hp => exact Reps.one rfl (Reps.one rfl (Reps.one rfl (Reps.one rfl (Reps.none _ _))))); intro v5 w7 ho7 hb7 hg7 hat7; (have HO7 : Aside0 (Kd.R (Kd.int .u8) 5 w7 w.heap.size (fun _ => True) u9 d) := ⟨Kd.R_grown HO.out hg7 (fun _ _ => by simp)⟩); (have HB7 : Aside0 (Below w.heap.size w w7) := ⟨hb7⟩); (obtain ⟨A5, c5, e5⟩ := Kd.R_slice ho7); subst e5; (have HT7 : Aside0 (Kd.C (Kd.int .u8) w7 A5 (sha_Sum.bytes z).length (sha_Sum.bytes z)) := ⟨(Kd.R_reads' ho7).2.2⟩); clear ho7 hb7 hg7 hat7 HO HB) | ((with_reducible refine gate_builtin (b := .append) (xs := #[.tmp 60, .tmp 72]) rfl ?_); at_builtin; refine Kd.R_append_rows (Kd.int .u8) (w0 := w) w.heap.size rfl (.tmp 60) (.tmp 72) 22 5 (.int .u8 0) 1 rfl Try.underlying22 info5 rfl (by decide) (by omega) u9 d (sha_Sum.bytes z) _ _ _ (fun _ => True) (fun _ => False) rfl rfl HO7.out HT7.out (fun _ _ h => h) (fun _ h => h.elim) (fun _ _ => trivial) HB7.out HB7.out.size (by have := HTL2.out; simp [sha_Sum.bytes]; omega) ?_; intro v8 w8 ho8 hb8 hg8 hat8; (have HO8 : Aside0 (Kd.R (Kd.int .u8) 5 w8 w.heap.size (fun _ => True) v8 (d ++ sha_Sum.bytes z)) := ⟨ho8⟩); (have HB8 : Aside0 (Below w.heap.size w w8) := ⟨hb8⟩); clear ho8 hb8 hg8 hat8 HB7 HT7 HO7))
              go_roundg q
              case measure => omega
              case rel => exact ⟨o + 1, by go_num, by omega, by rw [HST.out]; exact HO8, HB8⟩
        | succ q =>
          have hal := HAL.out.1
          have hal2 := HAL.out.2
          have hjn : (64 * (i : Int)) < (al.length : Int) := by omega
          have hjb : decide ((64 * (i : Int)) < (al.length : Int)) = true := decide_eq_true hjn
          have hlen : 64 * i + 64 ≤ al.length := by omega
          have hm := HM.out
          simp only [sha_Sum.run] at hm
          obtain ⟨ws, hws, hm1⟩ := Option.bind_eq_some_iff.mp hm
          obtain ⟨x, hx, hm2⟩ := Option.bind_eq_some_iff.mp hm1
          have HWS := Aside0.mk hws
          have HXR := Aside0.mk hx
          have HM2 : Aside0 (sha_Sum.run kk q (al.drop (64 * (i + 1))) (sha_Block.st (sha_behind.add x s)) = some s2) := ⟨by rw [← hm2, List.drop_drop]; congr 1⟩
          clear hm hm1 hm2 hws hx HM
          have hw6 : IntKind.i64.wrap (64 * (i : Int) + 64) = 64 * (i : Int) + 64 := IntWalk.i64_in _ (by omega)
          have hz := sha_Sum.take_drop al i
          have hC := Kd.C_drew (Kd.R_reads' HO.out).2.2
          have hr := Kd.C_mid (lo := 64 * i) (hi := 64 * i + 64) (c := c2) hC (by omega) hlen HC2.out
          obtain ⟨i0, hi0, _, hsz, _⟩ := info_parts info5
          have hcut := cut_mid (P := Try.prog) 22 5 .i64 .i64 Try.underlying22 hi0 1 hsz A2 al.length c2 (64 * (i : Int)) (64 * (i : Int) + 64) (by omega) (by omega) (by omega) HC2.out
          rw [show (64 * (i : Int)).toNat = 64 * i by omega, show (64 * (i : Int) + 64).toNat = 64 * i + 64 by omega] at hcut
          rw [hz] at hr
          have hyl : ((al.drop (64 * i)).take 64).length = 64 := by rw [List.length_take, List.length_drop]; omega
          rw [show 64 * i + 64 - 64 * i = 64 by omega] at hcut
          obtain ⟨A1', hA1⟩ : ∃ A1, A1 = (if c2 = 64 * i then A2 else A2.map (·.add (64 * i * 1))) := ⟨_, rfl⟩
          obtain ⟨c1', hc1⟩ : ∃ c1, c1 = c2 - 64 * i := ⟨_, rfl⟩
          rw [← hA1, ← hc1] at hcut
          have HRB : Aside0 (Kd.C (Kd.int .u8) wr.drew A1' ((al.drop (64 * i)).take 64).length ((al.drop (64 * i)).take 64)) := ⟨by rw [hA1]; exact hr⟩
          have HC1 : Aside0 (((al.drop (64 * i)).take 64).length ≤ c1') := ⟨by rw [hyl, hc1]; have := HC2.out; omega⟩
          have HYL := Aside0.mk hyl
          clear hz hC hr hi0 hsz hA1 hc1 hyl hal hal2
          generalize (al.drop (64 * i)).take 64 = y at *
          have hcut2 : ∀ W : World, (Instr.slice 22 (.slice A2 al.length c2) (some (.int .i64 (64 * (i : Int)))) (some (.int .i64 (64 * (i : Int) + 64))) none).run Try.prog W = .ok (.slice A1' y.length c1') W := fun W => by rw [HYL.out]; exact hcut W
          clear hcut
          go_wp2
          refine wp_region_still_tail 6 (by kernel_rfl) (by kernel_rfl) ?_
          simp only [List.take_succ_cons, List.take_zero, List.drop_succ_cons, List.drop_zero]
          refine sha_Sum.still_load rfl 41 (.tmp 4) rfl g1 rfl 41 s.cells 8 34 HX.out.out Try.underlying41 (sha_behind.size s) ?_
          repeat still_step
          refine wpStill_nil ?_
          change wpList _ _ _ _ _ wr.drew
          obtain ⟨W4, hW4⟩ : ∃ W4, W4 = wr.drew := ⟨_, rfl⟩
          have HX4 : Aside0 (sha_behind.Blk W4 g1 s) := ⟨⟨by rw [hW4]; exact HX.out.out⟩⟩
          have HK4 : Aside0 (sha_rounds.Blk W4 g0 kk) := ⟨⟨by rw [hW4]; exact HK.out.out⟩⟩
          have HO4 : Aside0 (Kd.R (Kd.int .u8) 5 W4 w.heap.size (fun _ => True) (.slice A2 al.length c2) al) := ⟨by rw [hW4]; exact Kd.R_drew HO.out⟩
          have HB4 : Aside0 (Below w.heap.size w W4) := ⟨by rw [hW4]; exact below_drew HB.out⟩
          rw [← hW4] at HRB
          rw [← hW4]
          clear hW4 HX HK HB HO hcut2
          go_wp2_with (first | (go_at_call 25; (with_reducible refine (sha_behind.calls s A1' c1' y g0 kk _ HRB.out HC1.out HYL.out HK4.out HKL.out ws HWS.out x HXR.out).mono ?_); rintro e w5 ⟨rfl, hb5⟩; (have HB5 : Aside0 (Below w.heap.size w w5) := ⟨below_step HB4.out hb5⟩); (have HX5 : Aside0 (sha_behind.Blk w5 g1 s) := ⟨⟨blk_below HX4.out.out hb5⟩⟩); (have HK5 : Aside0 (sha_rounds.Blk w5 g0 kk) := ⟨⟨blk_below HK4.out.out hb5⟩⟩); (have HO5 : Aside0 (Kd.R (Kd.int .u8) 5 w5 w.heap.size (fun _ => True) (.slice A2 al.length c2) al) := ⟨Kd.R_below HO4.out hb5⟩); clear hb5 HX4 HK4 HB4 HO4) | ((refine sha_behind.put_row (w0 := w) rfl 41 (.tmp 4) (.tmp 54) rfl g1 _ rfl rfl 41 _ HX5.out.out (sha_Sum.add_size x s) (by simp [nums, sha_behind.add, sha_behind.St.list, sha_behind.St.cells]) (sha_rounds.ones _ _) HB5.out (by have := HG.out; omega) ?_); intro w6 hg6 ho6 hz6 hb6; (have HX6 : Aside0 (sha_behind.Blk w6 g1 (sha_Block.st (sha_behind.add x s))) := ⟨⟨by rw [← sha_behind.St.cells_eq, sha_Block.st_list (sha_Sum.add_len x s)]; exact hg6⟩⟩); (have HK6 : Aside0 (sha_rounds.Blk w6 g0 kk) := ⟨⟨(ho6 _ (by have := HG.out; omega)).trans HK5.out.out⟩⟩); (have HO6 : Aside0 (Kd.R (Kd.int .u8) 5 w6 w.heap.size (fun _ => True) (.slice A2 al.length c2) al) := ⟨sha_Sum.keep_row HO5.out HX5.out.out ho6⟩); (have HB6 : Aside0 (Below w.heap.size w w6) := ⟨hb6⟩); clear hg6 ho6 hz6 hb6 HX5 HK5 HB5 HO5))
          go_roundg q
          case measure => omega
          case rel => exact ⟨i + 1, _, by go_num, by omega, HM2, HX6, HK6, HO6, HB6⟩
    | succ q =>
      have hjn : (64 * (j : Int)) < 64 * (n : Int) := by omega
      have hjb : decide ((64 * (j : Int)) < 64 * (n : Int)) = true := decide_eq_true hjn
      have hlen : 64 * j + 64 ≤ l0.length := by have := HN.out; omega
      have hm := HM.out
      simp only [sha_Sum.run] at hm
      obtain ⟨ws, hws, hm1⟩ := Option.bind_eq_some_iff.mp hm
      obtain ⟨x, hx, hm2⟩ := Option.bind_eq_some_iff.mp hm1
      have HWS := Aside0.mk hws
      have HXR := Aside0.mk hx
      have HM2 : Aside0 (sha_Sum.run kk q (l0.drop (64 * (j + 1))) (sha_Block.st (sha_behind.add x s)) = some s1) := ⟨by rw [← hm2, List.drop_drop]; congr 1⟩
      clear hm hm1 hm2 hws hx HM
      have hw6 : IntKind.i64.wrap (64 * (j : Int) + 64) = 64 * (j : Int) + 64 := IntWalk.i64_in _ (by omega)
      have hz := sha_Sum.take_drop l0 j
      have hC := Kd.C_below HR.out (below_drew HB.out)
      have hr := Kd.C_mid (lo := 64 * j) (hi := 64 * j + 64) (c := c0) hC (by omega) hlen HC.out
      obtain ⟨i0, hi0, _, hsz, _⟩ := info_parts info5
      have hcut := cut_mid (P := Try.prog) 22 5 .i64 .i64 Try.underlying22 hi0 1 hsz A0 l0.length c0 (64 * (j : Int)) (64 * (j : Int) + 64) (by omega) (by omega) (by omega) HC.out
      rw [show (64 * (j : Int)).toNat = 64 * j by omega, show (64 * (j : Int) + 64).toNat = 64 * j + 64 by omega] at hcut
      rw [hz] at hr
      have hyl : ((l0.drop (64 * j)).take 64).length = 64 := by rw [List.length_take, List.length_drop]; omega
      rw [show 64 * j + 64 - 64 * j = 64 by omega] at hcut
      obtain ⟨A1, hA1⟩ : ∃ A1, A1 = (if c0 = 64 * j then A0 else A0.map (·.add (64 * j * 1))) := ⟨_, rfl⟩
      obtain ⟨c1, hc1⟩ : ∃ c1, c1 = c0 - 64 * j := ⟨_, rfl⟩
      rw [← hA1, ← hc1] at hcut
      have HRB : Aside0 (Kd.C (Kd.int .u8) wr.drew A1 ((l0.drop (64 * j)).take 64).length ((l0.drop (64 * j)).take 64)) := ⟨by rw [hA1]; exact hr⟩
      have HC1 : Aside0 (((l0.drop (64 * j)).take 64).length ≤ c1) := ⟨by rw [hyl, hc1]; have := HC.out; omega⟩
      have HYL := Aside0.mk hyl
      clear hz hC hr hi0 hsz hA1 hc1 hyl
      generalize (l0.drop (64 * j)).take 64 = y at *
      have hcut2 : ∀ W : World, (Instr.slice 22 (.slice A0 l0.length c0) (some (.int .i64 (64 * (j : Int)))) (some (.int .i64 (64 * (j : Int) + 64))) none).run Try.prog W = .ok (.slice A1 y.length c1) W := fun W => by rw [HYL.out]; exact hcut W
      clear hcut
      go_wp2
      refine wp_region_still_tail 6 (by kernel_rfl) (by kernel_rfl) ?_
      simp only [List.take_succ_cons, List.take_zero, List.drop_succ_cons, List.drop_zero]
      refine sha_Sum.still_load rfl 41 (.tmp 4) rfl g1 rfl 41 s.cells 8 34 HX.out.out Try.underlying41 (sha_behind.size s) ?_
      repeat still_step
      refine wpStill_nil ?_
      change wpList _ _ _ _ _ wr.drew
      obtain ⟨W4, hW4⟩ : ∃ W4, W4 = wr.drew := ⟨_, rfl⟩
      have HX4 : Aside0 (sha_behind.Blk W4 g1 s) := ⟨⟨by rw [hW4]; exact HX.out.out⟩⟩
      have HK4 : Aside0 (sha_rounds.Blk W4 g0 kk) := ⟨⟨by rw [hW4]; exact HK.out.out⟩⟩
      have HB4 : Aside0 (Below w.heap.size w W4) := ⟨by rw [hW4]; exact below_drew HB.out⟩
      rw [← hW4] at HRB
      rw [← hW4]
      clear hW4 HX HK HB hcut2
      go_wp2_with (first | (go_at_call 25; (with_reducible refine (sha_behind.calls s A1 c1 y g0 kk _ HRB.out HC1.out HYL.out HK4.out HKL.out ws HWS.out x HXR.out).mono ?_); rintro e w5 ⟨rfl, hb5⟩; (have HB5 : Aside0 (Below w.heap.size w w5) := ⟨below_step HB4.out hb5⟩); (have HX5 : Aside0 (sha_behind.Blk w5 g1 s) := ⟨⟨blk_below HX4.out.out hb5⟩⟩); (have HK5 : Aside0 (sha_rounds.Blk w5 g0 kk) := ⟨⟨blk_below HK4.out.out hb5⟩⟩); clear hb5 HX4 HK4 HB4) | ((refine sha_behind.put_row (w0 := w) rfl 41 (.tmp 4) (.tmp 31) rfl g1 _ rfl rfl 41 _ HX5.out.out (sha_Sum.add_size x s) (by simp [nums, sha_behind.add, sha_behind.St.list, sha_behind.St.cells]) (sha_rounds.ones _ _) HB5.out (by have := HG.out; omega) ?_); intro w6 hg6 ho6 hz6 hb6; (have HX6 : Aside0 (sha_behind.Blk w6 g1 (sha_Block.st (sha_behind.add x s))) := ⟨⟨by rw [← sha_behind.St.cells_eq, sha_Block.st_list (sha_Sum.add_len x s)]; exact hg6⟩⟩); (have HK6 : Aside0 (sha_rounds.Blk w6 g0 kk) := ⟨⟨(ho6 _ (by have := HG.out; omega)).trans HK5.out.out⟩⟩); (have HB6 : Aside0 (Below w.heap.size w w6) := ⟨hb6⟩); clear hg6 ho6 hz6 hb6 HX5 HK5 HB5))
      go_roundg q
      case measure => omega
      case rel => exact ⟨j + 1, _, by go_num, by omega, HM2, HX6, HK6, HB6⟩

end Go.Proofs.Ytpebbjhllfcnbaa.PAll
