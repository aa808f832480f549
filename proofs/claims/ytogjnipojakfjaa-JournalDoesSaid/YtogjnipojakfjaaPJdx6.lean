-- SLIM: a printed text of which the unused ways are cut off
-- PRINTED by print.py (a twelfth state) out of the translation. Not trusted: Lean checks it.
import Derived.Test.YtogjnipojakfjaaPJdx0
import Derived.Test.YtogjnipojakfjaaPJdx4
import Derived.Test.YtogjnipojakfjaaPJdx5
namespace Go.Proofs.Ytogjnipojakfjaa.PJd
open Go.RowKit Go.Proofs.YtogjnipojakfjaaW.PrintWords Go.Proofs.YtogjnipojakfjaaW.PrintLast Go.Proofs.YtogjnipojakfjaaW.PrintMore
attribute [local go_sem] max2_int min2_int max_two min_two max_three min_three max_four min_four   -- for this text's walks alone
set_option linter.unusedVariables false
set_option linter.unusedSimpArgs false

/-! ### notaryref03_Start: function 78 -/
def notaryref03_Start.l0 : Nat → List Int → List Int → Int → Option (List Int)
  | 0, _, _, _ => none
  | k + 1, x1, x2, x3 => if x3 < 8 then (if 0 ≤ x3 then (if x3 < (x2.length : Int) then ((notaryref02_Root.f k (rd x2 x3) 2).bind fun t238 => (if x1.length < 35184372088832 then (notaryref03_Start.l0 k (x1 ++ [(t238) % 4294967296]) x2 (wrap64 (x3 + 1))) else (none))) else (none)) else (none)) else (some x1)
def notaryref03_Start.f (k : Nat)  : Option (List Int) := (notaryref02_Primes.f k 8).bind fun t234 => (notaryref03_Start.l0 k ([] : List Int) t234 0)
set_option maxHeartbeats 8000000 in
set_option maxRecDepth 100000 in
theorem notaryref03_Start.calls (k : Nat)  (r : List Int) (w : World) (h : notaryref03_Start.f k  = some r) :
    Calls Try.prog 78 #[] w fun e w' => ∃ v0_ : Value, e = .returned (v0_) ∧ Kd.R (Kd.int .u32) 87 w' w.heap.size (fun _ => True) v0_ r ∧ Below w.heap.size w w' := by
  have HB := Aside0.mk (Below.refl w.heap.size w)
  have H : ((notaryref02_Primes.f k 8).bind fun t234 => (notaryref03_Start.l0 k ([] : List Int) t234 0)) = some r := h
  clear h
  obtain ⟨y231, hy231⟩ : ∃ y_ : List Int, y_ = ([] : List Int) := ⟨_, rfl⟩
  replace H : ((notaryref02_Primes.f k 8).bind fun t234 => (notaryref03_Start.l0 k y231 t234 0)) = some r := by (rw [hy231]; with_reducible exact H)
  have Ny231 := Aside0.mk hy231
  clear hy231
  replace H := Option.bind_eq_some_iff.mp H
  obtain ⟨t234, A10, H⟩ := H
  replace H : (notaryref03_Start.l0 k y231 t234 0) = some r := H
  have A1 := Aside0.mk A10
  clear A10
  have H' := Aside0.mk H
  clear H
  go_enter Try.func78, Try.ntmps78
  go_wp2_with (first | ((with_reducible refine gate_dst (N := 4) rfl ?_); refine Kd.R_lit (Kd.int .u32) _ 87 ?hg (N := 4) ?hd (xs := ([] : List Int)) (inner := []) (ok := fun _ => True) (okp := fun _ => True) ?hr ?hp (fun _ hk => hk) trivial (Below.refl _ _) (Nat.le_refl _) (by simp) ?_; (case hd => rfl); (case hg => rfl); (case hr => (go_simp; done)); (case hp => exact (Reps.none _ _)); intro v232 w2 ho3 hb hg_ hnew_; clear hg_ hnew_; (rw [← Ny231.out] at ho3); have n0_ := Aside0.mk (Kd.R_lower ho3 (below_size HB.out)); have n1_ := Aside0.mk (below_step HB.out hb); clear HB; have HO233 := n0_; have HB := n1_; clear n0_ n1_; clear hb ho3) | ((with_reducible refine gate_callee (f := 85) rfl ?_); refine goesL_ (some 5) rfl rfl Try.func85 (by kernel_rfl) rfl #[.int .i64 8] rfl (by (try simp only [List.map_toArray, List.map_cons, List.map_nil]); (rfl)) ?_; (with_reducible refine (notaryref02_Primes.calls k 8 t234 _ A1.out).mono ?_); rintro e w4 ⟨v235, rfl, ho0, hb⟩; refine ⟨_, rfl, ?_⟩; have n0_ := Aside0.mk (Kd.R_below (by exact HO233.out) hb); have n1_ := Aside0.mk (Kd.R_lower ho0 (below_size HB.out)); have n2_ := Aside0.mk (below_step HB.out hb); clear HO233; clear HB; have HO233 := n0_; have HO236 := n1_; have HB := n2_; clear n0_ n1_ n2_; (try clear hb); (try clear ho0)))
  go_loopg [1, 3] k (fun kq v1 v3 w' => ∃ (x1_1 : List Int) (x3_1 : Int), v3 = .int .i64 x3_1 ∧ Aside0 (notaryref03_Start.l0 kq x1_1 t234 x3_1 = some r) ∧ Aside0 (kq ≤ k) ∧ Aside0 (Kd.R (Kd.int .u32) 87 w' w.heap.size (fun _ => True) v1 x1_1) ∧ Aside0 (Kd.R (Kd.int .i64) 3 w' w.heap.size (fun _ => True) v235 t234) ∧ Aside0 (Below w.heap.size w w'))
  case atStart => exact ⟨(y231), (0), (by (rfl)), H', ⟨Nat.le_refl _⟩, ⟨by exact HO233.out⟩, ⟨by exact HO236.out⟩, ⟨HB.out⟩⟩
  clear H'
  obtain ⟨x1_1, x3_1, rfl, HA, HK1, HO_1, HO_2, HB⟩ := hrel
  rcases gk with _ | k1
  · exact absurd HA.out (by simp [notaryref03_Start.l0])
  have H := HA.out
  clear HA
  simp only [notaryref03_Start.l0] at H
  by_cases c5 : x3_1 < 8
  rotate_left
  · rw [if_neg c5] at H
    have c5b0 : decide (x3_1 < 8) = false := decide_eq_false c5
    clear c5
    obtain rfl := Option.some.inj H
    go_wp2
    go_ret
    exact ⟨_, by (rfl), by exact HO_1.out, HB.out⟩


  rw [if_pos c5] at H
  have c5b0 : decide (x3_1 < 8) = true := decide_eq_true c5
  clear c5
  by_cases c6 : 0 ≤ x3_1
  rotate_left
  · rw [if_neg c6] at H
    exact absurd H (by simp)
  rw [if_pos c6] at H
  have c6b0 : decide (0 ≤ x3_1) = true := decide_eq_true c6
  clear c6
  by_cases c7 : x3_1 < (t234.length : Int)
  rotate_left
  · rw [if_neg c7] at H
    exact absurd H (by simp)
  rw [if_pos c7] at H
  have c7b0 : decide (x3_1 < (t234.length : Int)) = true := decide_eq_true c7
  clear c7
  replace H := Option.bind_eq_some_iff.mp H
  obtain ⟨t238, A80, H⟩ := H
  replace H : (if x1_1.length < 35184372088832 then (notaryref03_Start.l0 k1 (x1_1 ++ [(t238) % 4294967296]) t234 (wrap64 (x3_1 + 1))) else (none)) = some r := H
  have A8 := Aside0.mk A80
  clear A80
  by_cases c9 : x1_1.length < 35184372088832
  rotate_left
  · rw [if_neg c9] at H
    exact absurd H (by simp)
  rw [if_pos c9] at H
  have LMc9 := Aside0.mk c9
  clear c9
  obtain ⟨y239, hy239⟩ : ∃ y_ : List Int, y_ = (x1_1 ++ [(t238) % 4294967296]) := ⟨_, rfl⟩
  replace H : (notaryref03_Start.l0 k1 y239 t234 (wrap64 (x3_1 + 1))) = some r := by (rw [hy239]; with_reducible exact H)
  have Ny239 := Aside0.mk hy239
  clear hy239
  have H' := Aside0.mk H
  clear H
  obtain ⟨Ao10, co10, eo10⟩ := Kd.R_slice HO_2.out
  subst eo10
  have p237 : 0 ≤ (x3_1 : Int) := of_decide_eq_true (by (with_reducible assumption))
  have q237 : x3_1 < (t234.length : Int) := of_decide_eq_true (by (with_reducible assumption))
  obtain ⟨ad237, e237, hx237_0⟩ := Kd.at_int (Kd.R_reads' HO_2.out).2.2 x3_1 p237 q237
  cases e237
  replace p237 := eq_true p237
  replace q237 := eq_true q237
  go_wp2_with (first | ((with_reducible refine gate_callee (f := 86) rfl ?_); refine goesL_ (some 15) rfl rfl Try.func86 (by kernel_rfl) rfl #[.int .i64 (rd t234 x3_1), .int .i64 2] rfl (by (try simp only [List.map_toArray, List.map_cons, List.map_nil]); (rfl)) ?_; (with_reducible refine (notaryref02_Root.calls k1 (rd t234 x3_1) 2 t238 _ A8.out).mono ?_); rintro e w11 ⟨rfl, hb⟩; refine ⟨_, rfl, ?_⟩; have n0_ := Aside0.mk (Kd.R_below (by exact HO_1.out) hb); have n1_ := Aside0.mk (Kd.R_below (by exact HO_2.out) hb); have n2_ := Aside0.mk (below_step HB.out hb); clear HO_1; clear HO_2; clear HB; have HO_1 := n0_; have HO_2 := n1_; have HB := n2_; clear n0_ n1_ n2_; (try clear hb); (skip)) | ((with_reducible refine gate_builtin (b := .append) (xs := #[.tmp 10, .tmp 17]) rfl ?_); at_builtin; refine Kd.R_append (Kd.int .u32) (w0 := w) w.heap.size rfl (.tmp 10) (.tmp 17) 113 87 (.int .u32 0) 4 rfl Try.underlying113 info87 rfl (by decide) (by omega) u1 x1_1 ((t238) % 4294967296) [.int .u32 ((t238) % 4294967296)] (fun _ => True) (fun _ => False) rfl rfl ?aP (fun _ hk => hk.elim) ?aF ?aO ?aB ?aS ?aL ?_; (case aP => exact rfl); (case aB => exact HB.out); (case aF => exact (fun _ _ => trivial)); (case aO => exact (by exact HO_1.out)); (case aS => exact (below_size HB.out)); (case aL => have := LMc9.out; omega); intro v240 w12 ho hb hg hat; rw [← Ny239.out] at ho; have n0_ := Aside0.mk (Kd.R_over' (by exact HO_2.out) (Kd.R_typed (by exact HO_1.out)) (by decide) hg); have n1_ := Aside0.mk (hb); have n2_ := Aside0.mk (ho); clear HO_2; clear HB; clear HO_1; have HO_2 := n0_; have HB := n1_; have HO241 := n2_; clear n0_ n1_ n2_; clear ho hb hg hat))
  go_roundg k1
  case measure => have := HK1.out; omega
  case rel => exact ⟨(y239), (wrap64 (x3_1 + 1)), (by (rfl)), H', ⟨by have := HK1.out; omega⟩, ⟨by exact HO241.out⟩, ⟨by exact HO_2.out⟩, ⟨HB.out⟩⟩/-! ### notaryref03_Rot: function 88 -/
def notaryref03_Rot.f (a0 : Int) (a1 : Int) : Option (Int) := if 0 ≤ a1 then (if 0 ≤ (IntKind.u64.wrap (32 - a1)) then (some (Go.bits .or .u32 (shr .u32 a0 a1) (shl .u32 a0 (IntKind.u64.wrap (32 - a1))))) else (none)) else (none)
set_option maxHeartbeats 8000000 in
set_option maxRecDepth 100000 in
theorem notaryref03_Rot.calls (a0 : Int) (a1 : Int) (r : Int) (w : World) (h : notaryref03_Rot.f a0 a1 = some r) :
    Calls Try.prog 88 #[.int .u32 a0, .int .u64 a1] w fun e w' => e = .returned (.int .u32 r) ∧ Drawn0 w w' := by
  have H : (if 0 ≤ a1 then (if 0 ≤ (IntKind.u64.wrap (32 - a1)) then (some (Go.bits .or .u32 (shr .u32 a0 a1) (shl .u32 a0 (IntKind.u64.wrap (32 - a1))))) else (none)) else (none)) = some r := h
  clear h
  by_cases c3 : 0 ≤ a1
  rotate_left
  · rw [if_neg c3] at H
    exact absurd H (by simp)


  rw [if_pos c3] at H
  have c3b0 := eq_true c3
  have c3b1 : decide (0 ≤ a1) = true := decide_eq_true c3
  clear c3
  obtain ⟨ji4, hji4⟩ : ∃ j_ : Int, (shr .u32 a0 a1) = j_ := ⟨_, rfl⟩
  replace H : (if 0 ≤ (IntKind.u64.wrap (32 - a1)) then (some (Go.bits .or .u32 (ji4) (shl .u32 a0 (IntKind.u64.wrap (32 - a1))))) else (none)) = some r := by (rw [hji4] at H; exact H)
  have hji4_ : (a0 / 2 ^ min a1.toNat 32) = ji4 := hji4
  have hji4z : a1 ≤ 32 → (a0 / 2 ^ a1.toNat) = ji4 := shr_small hji4
  obtain ⟨ji5, hji5⟩ : ∃ j_ : Int, (IntKind.u64.wrap (32 - a1)) = j_ := ⟨_, rfl⟩
  replace H : (if 0 ≤ (ji5) then (some (Go.bits .or .u32 (ji4) (shl .u32 a0 (ji5)))) else (none)) = some r := by (rw [hji5] at H; exact H)
  by_cases c6 : 0 ≤ (ji5)
  rotate_left
  · rw [if_neg c6] at H
    exact absurd H (by simp)
  rw [if_pos c6] at H
  have c6b0 := eq_true c6
  have c6b1 : decide (0 ≤ (ji5)) = true := decide_eq_true c6
  clear c6
  obtain ⟨ji7, hji7⟩ : ∃ j_ : Int, (shl .u32 a0 (ji5)) = j_ := ⟨_, rfl⟩
  replace H : (some (Go.bits .or .u32 (ji4) (ji7))) = some r := by (rw [hji7] at H; exact H)
  have hji7_ : (IntKind.u32.wrap (a0 * 2 ^ min (ji5).toNat 32)) = ji7 := hji7
  have hji7z : (ji5) ≤ 32 → (IntKind.u32.wrap (a0 * 2 ^ (ji5).toNat)) = ji7 := shl_small hji7
  obtain rfl := Option.some.inj H
  go_enter Try.func88, Try.ntmps88
  go_wp2
  go_ret
  exact ⟨by (rfl), by repeat (exact Drawn0.refl _)⟩/-! ### notaryref03_Numbers: function 87 -/
mutual
def notaryref03_Numbers.l0 : Nat → List Int → List Int → Int → Option (List Int)
  | 0, _, _, _ => none
  | k + 1, x0, x3, x4 => if x4 < 16 then (notaryref03_Numbers.l1 k x0 x3 x4 0 0) else (notaryref03_Numbers.l2 k x3 16)
def notaryref03_Numbers.l1 : Nat → List Int → List Int → Int → Int → Int → Option (List Int)
  | 0, _, _, _, _, _ => none
  | k + 1, x0, x3, x4, x5, x6 => if x6 < 4 then (if 0 ≤ (wrap64 ((wrap64 (4 * x4)) + x6)) then (if (wrap64 ((wrap64 (4 * x4)) + x6)) < (x0.length : Int) then (notaryref03_Numbers.l1 k x0 x3 x4 ((((x5 * 256) % 4294967296) + ((rd x0 (wrap64 ((wrap64 (4 * x4)) + x6))) % 4294967296)) % 4294967296) (wrap64 (x6 + 1))) else (none)) else (none)) else (if x3.length < 35184372088832 then (notaryref03_Numbers.l0 k x0 (x3 ++ [x5]) (wrap64 (x4 + 1))) else (none))
def notaryref03_Numbers.l2 : Nat → List Int → Int → Option (List Int)
  | 0, _, _ => none
  | k + 1, x3, x7 => if x7 < 64 then (if 0 ≤ (wrap64 (x7 - 2)) then (if (wrap64 (x7 - 2)) < (x3.length : Int) then (if 0 ≤ (wrap64 (x7 - 15)) then (if (wrap64 (x7 - 15)) < (x3.length : Int) then ((notaryref03_Rot.f (rd x3 (wrap64 (x7 - 2))) 17).bind fun t251 => ((notaryref03_Rot.f (rd x3 (wrap64 (x7 - 2))) 19).bind fun t252 => ((notaryref03_Rot.f (rd x3 (wrap64 (x7 - 15))) 7).bind fun t253 => ((notaryref03_Rot.f (rd x3 (wrap64 (x7 - 15))) 18).bind fun t254 => (if 0 ≤ (wrap64 (x7 - 7)) then (if (wrap64 (x7 - 7)) < (x3.length : Int) then (if 0 ≤ (wrap64 (x7 - 16)) then (if (wrap64 (x7 - 16)) < (x3.length : Int) then (if x3.length < 35184372088832 then (notaryref03_Numbers.l2 k (x3 ++ [((((((Go.bits .xor .u32 (Go.bits .xor .u32 t251 t252) ((rd x3 (wrap64 (x7 - 2))) / 1024)) + (rd x3 (wrap64 (x7 - 7)))) % 4294967296) + (Go.bits .xor .u32 (Go.bits .xor .u32 t253 t254) ((rd x3 (wrap64 (x7 - 15))) / 8))) % 4294967296) + (rd x3 (wrap64 (x7 - 16)))) % 4294967296]) (wrap64 (x7 + 1))) else (none)) else (none)) else (none)) else (none)) else (none)))))) else (none)) else (none)) else (none)) else (none)) else (some x3)
end
def notaryref03_Numbers.f (k : Nat) (l0 : List Int) : Option (List Int) := notaryref03_Numbers.l0 k l0 ([] : List Int) 0
def notaryref03_Numbers.T18 : Bool × List (List Nat × List Nat) := (true, [([], []), ([], []), ([], []), ([], []), ([3], [3]), ([2, 4], [2, 4]), ([5], [5]), ([1, 6], [1, 6]), ([], []), ([7, 8], [7, 8]), ([], []), ([], []), ([11], [11]), ([10, 12], [10, 12]), ([13], [13]), ([9, 14], [9, 14]), ([15], [15]), ([0, 16], [0, 16]), ([17, 17, 0, 1, 2, 3, 4, 5, 6, 7, 8, 9, 10, 11, 12, 13, 14, 15, 16, 17], [0, 2, 10, 17])])
def notaryref03_Numbers.B18 : List Nat := [0, 0, 0, 0, 8, 28, 60, 126, 0, 510, 0, 0, 2048, 7168, 15360, 32766, 65534, 131071, 262143]
theorem notaryref03_Numbers.tab18 : rtab .any (opsOf Try.f87 18) = notaryref03_Numbers.T18 := by kernel_rfl
theorem notaryref03_Numbers.bits18 : waitsOk notaryref03_Numbers.T18.2 notaryref03_Numbers.B18 = true := by kernel_rfl
set_option maxHeartbeats 8000000 in
set_option maxRecDepth 100000 in
theorem notaryref03_Numbers.calls (k : Nat) (A0 : Option Addr) (c0 : Nat) (l0 : List Int) (r : List Int) (w : World) (hr0 : Kd.C (Kd.int .u8) w A0 l0.length l0) (hc0 : l0.length ≤ c0) (h : notaryref03_Numbers.f k l0 = some r) :
    Calls Try.prog 87 #[.slice A0 l0.length c0] w fun e w' => ∃ v0_ : Value, e = .returned (v0_) ∧ Kd.R (Kd.int .u32) 87 w' w.heap.size (fun _ => True) v0_ r ∧ Below w.heap.size w w' := by
  have HR0 := Aside0.mk hr0
  have HC0 := Aside0.mk hc0
  clear hr0 hc0
  have HB := Aside0.mk (Below.refl w.heap.size w)
  have H : (notaryref03_Numbers.l0 k l0 ([] : List Int) 0) = some r := h
  clear h
  obtain ⟨y242, hy242⟩ : ∃ y_ : List Int, y_ = ([] : List Int) := ⟨_, rfl⟩
  replace H : (notaryref03_Numbers.l0 k l0 y242 0) = some r := by (rw [hy242]; with_reducible exact H)
  have Ny242 := Aside0.mk hy242
  clear hy242
  have H' := Aside0.mk H
  clear H
  go_enter Try.func87, Try.ntmps87
  go_wp2_with ((((with_reducible refine gate_dst (N := 12) rfl ?_); refine Kd.R_lit (Kd.int .u32) _ 87 ?hg (N := 12) ?hd (xs := ([] : List Int)) (inner := []) (ok := fun _ => True) (okp := fun _ => True) ?hr ?hp (fun _ hk => hk) trivial (Below.refl _ _) (Nat.le_refl _) (by simp) ?_; (case hd => rfl); (case hg => rfl); (case hr => (go_simp; done)); (case hp => exact (Reps.none _ _)); intro v243 w2 ho3 hb hg_ hnew_; clear hg_ hnew_; (rw [← Ny242.out] at ho3); have n0_ := Aside0.mk (Kd.R_lower ho3 (below_size HB.out)); have n1_ := Aside0.mk (below_step HB.out hb); clear HB; have HO244 := n0_; have HB := n1_; clear n0_ n1_; clear hb ho3)))
  go_loopg [3, 4] k (fun kq v3 v4 w' => ∃ (x3_1 : List Int) (x4_1 : Int), v4 = .int .i64 x4_1 ∧ Aside0 (notaryref03_Numbers.l0 kq l0 x3_1 x4_1 = some r) ∧ Aside0 (kq ≤ k) ∧ Aside0 (Kd.R (Kd.int .u32) 87 w' w.heap.size (fun _ => True) v3 x3_1) ∧ Aside0 (Below w.heap.size w w'))
  case atStart => exact ⟨(y242), (0), (by (rfl)), H', ⟨Nat.le_refl _⟩, ⟨by exact HO244.out⟩, ⟨HB.out⟩⟩
  clear H'
  obtain ⟨x3_1, x4_1, rfl, HA, HK1, HO_3, HB⟩ := hrel
  rcases gk with _ | k1
  · exact absurd HA.out (by simp [notaryref03_Numbers.l0])
  have H := HA.out
  clear HA
  simp only [notaryref03_Numbers.l0] at H
  by_cases c4 : x4_1 < 16
  · rw [if_pos c4] at H
    have c4b0 : decide (x4_1 < 16) = true := decide_eq_true c4
    clear c4
    have H' := Aside0.mk H
    clear H
    go_wp2
    go_loopg [5, 6] k1 (fun kq v5 v6 w' => ∃ (x5_2 : Int) (x6_2 : Int), v5 = .int .u32 x5_2 ∧ v6 = .int .i64 x6_2 ∧ Aside0 (notaryref03_Numbers.l1 kq l0 x3_1 x4_1 x5_2 x6_2 = some r) ∧ Aside0 (kq ≤ k1) ∧ Aside0 (Kd.R (Kd.int .u32) 87 w' w.heap.size (fun _ => True) u3 x3_1) ∧ Aside0 (Below w.heap.size w w'))
    case atStart => exact ⟨(0), (0), (by (rfl)), (by (rfl)), H', ⟨Nat.le_refl _⟩, ⟨by exact HO_3.out⟩, ⟨HB.out⟩⟩
    clear H'
    try clear c4b0
    obtain ⟨x5_2, x6_2, rfl, rfl, HA, HK2, HO_3, HB⟩ := hrel
    rcases gk with _ | k2
    · exact absurd HA.out (by simp [notaryref03_Numbers.l1])
    have H := HA.out
    clear HA
    simp only [notaryref03_Numbers.l1] at H
    by_cases c5 : x6_2 < 4
    rotate_left
    · rw [if_neg c5] at H
      have c5b0 : decide (x6_2 < 4) = false := decide_eq_false c5
      clear c5
      by_cases c9 : x3_1.length < 35184372088832
      rotate_left
      · rw [if_neg c9] at H
        exact absurd H (by simp)
      rw [if_pos c9] at H
      have LMc9 := Aside0.mk c9
      clear c9
      obtain ⟨y246, hy246⟩ : ∃ y_ : List Int, y_ = (x3_1 ++ [x5_2]) := ⟨_, rfl⟩
      replace H : (notaryref03_Numbers.l0 k2 l0 y246 (wrap64 (x4_1 + 1))) = some r := by (rw [hy246]; with_reducible exact H)
      have Ny246 := Aside0.mk hy246
      clear hy246
      have H' := Aside0.mk H
      clear H
      go_wp2_with ((((with_reducible refine gate_builtin (b := .append) (xs := #[.tmp 32, .tmp 34]) rfl ?_); at_builtin; refine Kd.R_append (Kd.int .u32) (w0 := w) w.heap.size rfl (.tmp 32) (.tmp 34) 113 87 (.int .u32 0) 4 rfl Try.underlying113 info87 rfl (by decide) (by omega) u3 x3_1 x5_2 [.int .u32 x5_2] (fun _ => True) (fun _ => False) rfl rfl ?aP (fun _ hk => hk.elim) ?aF ?aO ?aB ?aS ?aL ?_; (case aP => exact rfl); (case aB => exact HB.out); (case aF => exact (fun _ _ => trivial)); (case aO => exact (by exact HO_3.out)); (case aS => exact (below_size HB.out)); (case aL => have := LMc9.out; omega); intro v247 w10 ho hb hg hat; rw [← Ny246.out] at ho; have n0_ := Aside0.mk (hb); have n1_ := Aside0.mk (ho); clear HB; clear HO_3; have HB := n0_; have HO248 := n1_; clear n0_ n1_; clear ho hb hg hat)))
      go_roundg k2
      case measure => have := HK1.out; have := HK2.out; omega
      case rel => exact ⟨(y246), (wrap64 (x4_1 + 1)), (by (rfl)), H', ⟨by have := HK1.out; have := HK2.out; omega⟩, ⟨by exact HO248.out⟩, ⟨HB.out⟩⟩
    rw [if_pos c5] at H
    have c5b0 : decide (x6_2 < 4) = true := decide_eq_true c5
    clear c5
    obtain ⟨ji6, hji6⟩ : ∃ j_ : Int, (wrap64 ((wrap64 (4 * x4_1)) + x6_2)) = j_ := ⟨_, rfl⟩
    replace H : (if 0 ≤ (ji6) then (if (ji6) < (l0.length : Int) then (notaryref03_Numbers.l1 k2 l0 x3_1 x4_1 ((((x5_2 * 256) % 4294967296) + ((rd l0 (ji6)) % 4294967296)) % 4294967296) (wrap64 (x6_2 + 1))) else (none)) else (none)) = some r := by (rw [hji6] at H; exact H)
    have hji6w : (IntKind.i64.wrap ((wrap64 (4 * x4_1)) + x6_2)) = ji6 := (i64_w _).trans hji6
    by_cases c7 : 0 ≤ (ji6)
    rotate_left
    · rw [if_neg c7] at H
      exact absurd H (by simp)
    rw [if_pos c7] at H
    have c7b0 : decide (0 ≤ (ji6)) = true := decide_eq_true c7
    clear c7
    by_cases c8 : (ji6) < (l0.length : Int)
    rotate_left
    · rw [if_neg c8] at H
      exact absurd H (by simp)
    rw [if_pos c8] at H
    have c8b0 : decide ((ji6) < (l0.length : Int)) = true := decide_eq_true c8
    clear c8
    have H' := Aside0.mk H
    clear H
    have p245 : 0 ≤ ((ji6) : Int) := of_decide_eq_true (by (with_reducible assumption))
    have q245 : (ji6) < (l0.length : Int) := of_decide_eq_true (by (with_reducible assumption))
    obtain ⟨ad245, e245, hx245_0⟩ := Kd.at_int HR0.out (ji6) p245 q245
    cases e245
    replace hx245_0 := pw_cell_below HB.out hx245_0
    replace p245 := eq_true p245
    replace q245 := eq_true q245
    go_wp2
    go_roundg k2
    case measure => have := HK1.out; have := HK2.out; omega
    case rel => exact ⟨((((x5_2 * 256) % 4294967296) + ((rd l0 (ji6)) % 4294967296)) % 4294967296), (wrap64 (x6_2 + 1)), (by (rfl)), (by (rfl)), H', ⟨by have := HK1.out; have := HK2.out; omega⟩, ⟨by exact HO_3.out⟩, ⟨HB.out⟩⟩
  rw [if_neg c4] at H
  have c4b0 : decide (x4_1 < 16) = false := decide_eq_false c4
  clear c4
  have H' := Aside0.mk H
  clear H
  go_wp2
  go_loopg [3, 7] k1 (fun kq v3 v7 w' => ∃ (x3_2 : List Int) (x7_2 : Int), v7 = .int .i64 x7_2 ∧ Aside0 (notaryref03_Numbers.l2 kq x3_2 x7_2 = some r) ∧ Aside0 (kq ≤ k1) ∧ Aside0 (Kd.R (Kd.int .u32) 87 w' w.heap.size (fun _ => True) v3 x3_2) ∧ Aside0 (Below w.heap.size w w'))
  case atStart => exact ⟨(x3_1), (16), (by (rfl)), H', ⟨Nat.le_refl _⟩, ⟨by exact HO_3.out⟩, ⟨HB.out⟩⟩
  clear H'
  try clear c4b0
  obtain ⟨x3_2, x7_2, rfl, HA, HK2, HO_3, HB⟩ := hrel
  rcases gk with _ | k2
  · exact absurd HA.out (by simp [notaryref03_Numbers.l2])
  have H := HA.out
  clear HA
  simp only [notaryref03_Numbers.l2] at H
  by_cases c11 : x7_2 < 64
  rotate_left
  · rw [if_neg c11] at H
    have c11b0 : decide (x7_2 < 64) = false := decide_eq_false c11
    clear c11
    obtain rfl := Option.some.inj H
    go_wp2
    go_ret
    exact ⟨_, by (rfl), by exact HO_3.out, HB.out⟩

  rw [if_pos c11] at H
  have c11b0 : decide (x7_2 < 64) = true := decide_eq_true c11
  clear c11
  obtain ⟨ji12, hji12⟩ : ∃ j_ : Int, (wrap64 (x7_2 - 2)) = j_ := ⟨_, rfl⟩
  replace H : (if 0 ≤ (ji12) then (if (ji12) < (x3_2.length : Int) then (if 0 ≤ (wrap64 (x7_2 - 15)) then (if (wrap64 (x7_2 - 15)) < (x3_2.length : Int) then ((notaryref03_Rot.f (rd x3_2 (ji12)) 17).bind fun t251 => ((notaryref03_Rot.f (rd x3_2 (ji12)) 19).bind fun t252 => ((notaryref03_Rot.f (rd x3_2 (wrap64 (x7_2 - 15))) 7).bind fun t253 => ((notaryref03_Rot.f (rd x3_2 (wrap64 (x7_2 - 15))) 18).bind fun t254 => (if 0 ≤ (wrap64 (x7_2 - 7)) then (if (wrap64 (x7_2 - 7)) < (x3_2.length : Int) then (if 0 ≤ (wrap64 (x7_2 - 16)) then (if (wrap64 (x7_2 - 16)) < (x3_2.length : Int) then (if x3_2.length < 35184372088832 then (notaryref03_Numbers.l2 k2 (x3_2 ++ [((((((Go.bits .xor .u32 (Go.bits .xor .u32 t251 t252) ((rd x3_2 (ji12)) / 1024)) + (rd x3_2 (wrap64 (x7_2 - 7)))) % 4294967296) + (Go.bits .xor .u32 (Go.bits .xor .u32 t253 t254) ((rd x3_2 (wrap64 (x7_2 - 15))) / 8))) % 4294967296) + (rd x3_2 (wrap64 (x7_2 - 16)))) % 4294967296]) (wrap64 (x7_2 + 1))) else (none)) else (none)) else (none)) else (none)) else (none)))))) else (none)) else (none)) else (none)) else (none)) = some r := by (rw [hji12] at H; exact H)
  have hji12w : (IntKind.i64.wrap (x7_2 - 2)) = ji12 := (i64_w _).trans hji12
  by_cases c13 : 0 ≤ (ji12)
  rotate_left
  · rw [if_neg c13] at H
    exact absurd H (by simp)
  rw [if_pos c13] at H
  have c13b0 : decide (0 ≤ (ji12)) = true := decide_eq_true c13
  clear c13
  by_cases c14 : (ji12) < (x3_2.length : Int)
  rotate_left
  · rw [if_neg c14] at H
    exact absurd H (by simp)
  rw [if_pos c14] at H
  have c14b0 : decide ((ji12) < (x3_2.length : Int)) = true := decide_eq_true c14
  clear c14
  obtain ⟨ji15, hji15⟩ : ∃ j_ : Int, (wrap64 (x7_2 - 15)) = j_ := ⟨_, rfl⟩
  replace H : (if 0 ≤ (ji15) then (if (ji15) < (x3_2.length : Int) then ((notaryref03_Rot.f (rd x3_2 (ji12)) 17).bind fun t251 => ((notaryref03_Rot.f (rd x3_2 (ji12)) 19).bind fun t252 => ((notaryref03_Rot.f (rd x3_2 (ji15)) 7).bind fun t253 => ((notaryref03_Rot.f (rd x3_2 (ji15)) 18).bind fun t254 => (if 0 ≤ (wrap64 (x7_2 - 7)) then (if (wrap64 (x7_2 - 7)) < (x3_2.length : Int) then (if 0 ≤ (wrap64 (x7_2 - 16)) then (if (wrap64 (x7_2 - 16)) < (x3_2.length : Int) then (if x3_2.length < 35184372088832 then (notaryref03_Numbers.l2 k2 (x3_2 ++ [((((((Go.bits .xor .u32 (Go.bits .xor .u32 t251 t252) ((rd x3_2 (ji12)) / 1024)) + (rd x3_2 (wrap64 (x7_2 - 7)))) % 4294967296) + (Go.bits .xor .u32 (Go.bits .xor .u32 t253 t254) ((rd x3_2 (ji15)) / 8))) % 4294967296) + (rd x3_2 (wrap64 (x7_2 - 16)))) % 4294967296]) (wrap64 (x7_2 + 1))) else (none)) else (none)) else (none)) else (none)) else (none)))))) else (none)) else (none)) = some r := by (rw [hji15] at H; exact H)
  have hji15w : (IntKind.i64.wrap (x7_2 - 15)) = ji15 := (i64_w _).trans hji15
  by_cases c16 : 0 ≤ (ji15)
  rotate_left
  · rw [if_neg c16] at H
    exact absurd H (by simp)
  rw [if_pos c16] at H
  have c16b0 : decide (0 ≤ (ji15)) = true := decide_eq_true c16
  clear c16
  by_cases c17 : (ji15) < (x3_2.length : Int)
  rotate_left
  · rw [if_neg c17] at H
    exact absurd H (by simp)
  rw [if_pos c17] at H
  have c17b0 : decide ((ji15) < (x3_2.length : Int)) = true := decide_eq_true c17
  clear c17
  replace H := Option.bind_eq_some_iff.mp H
  obtain ⟨t251, A180, H⟩ := H
  replace H : ((notaryref03_Rot.f (rd x3_2 (ji12)) 19).bind fun t252 => ((notaryref03_Rot.f (rd x3_2 (ji15)) 7).bind fun t253 => ((notaryref03_Rot.f (rd x3_2 (ji15)) 18).bind fun t254 => (if 0 ≤ (wrap64 (x7_2 - 7)) then (if (wrap64 (x7_2 - 7)) < (x3_2.length : Int) then (if 0 ≤ (wrap64 (x7_2 - 16)) then (if (wrap64 (x7_2 - 16)) < (x3_2.length : Int) then (if x3_2.length < 35184372088832 then (notaryref03_Numbers.l2 k2 (x3_2 ++ [((((((Go.bits .xor .u32 (Go.bits .xor .u32 t251 t252) ((rd x3_2 (ji12)) / 1024)) + (rd x3_2 (wrap64 (x7_2 - 7)))) % 4294967296) + (Go.bits .xor .u32 (Go.bits .xor .u32 t253 t254) ((rd x3_2 (ji15)) / 8))) % 4294967296) + (rd x3_2 (wrap64 (x7_2 - 16)))) % 4294967296]) (wrap64 (x7_2 + 1))) else (none)) else (none)) else (none)) else (none)) else (none))))) = some r := H
  have A18 := Aside0.mk A180
  clear A180
  replace H := Option.bind_eq_some_iff.mp H
  obtain ⟨t252, A190, H⟩ := H
  replace H : ((notaryref03_Rot.f (rd x3_2 (ji15)) 7).bind fun t253 => ((notaryref03_Rot.f (rd x3_2 (ji15)) 18).bind fun t254 => (if 0 ≤ (wrap64 (x7_2 - 7)) then (if (wrap64 (x7_2 - 7)) < (x3_2.length : Int) then (if 0 ≤ (wrap64 (x7_2 - 16)) then (if (wrap64 (x7_2 - 16)) < (x3_2.length : Int) then (if x3_2.length < 35184372088832 then (notaryref03_Numbers.l2 k2 (x3_2 ++ [((((((Go.bits .xor .u32 (Go.bits .xor .u32 t251 t252) ((rd x3_2 (ji12)) / 1024)) + (rd x3_2 (wrap64 (x7_2 - 7)))) % 4294967296) + (Go.bits .xor .u32 (Go.bits .xor .u32 t253 t254) ((rd x3_2 (ji15)) / 8))) % 4294967296) + (rd x3_2 (wrap64 (x7_2 - 16)))) % 4294967296]) (wrap64 (x7_2 + 1))) else (none)) else (none)) else (none)) else (none)) else (none)))) = some r := H
  have A19 := Aside0.mk A190
  clear A190
  replace H := Option.bind_eq_some_iff.mp H
  obtain ⟨t253, A200, H⟩ := H
  replace H : ((notaryref03_Rot.f (rd x3_2 (ji15)) 18).bind fun t254 => (if 0 ≤ (wrap64 (x7_2 - 7)) then (if (wrap64 (x7_2 - 7)) < (x3_2.length : Int) then (if 0 ≤ (wrap64 (x7_2 - 16)) then (if (wrap64 (x7_2 - 16)) < (x3_2.length : Int) then (if x3_2.length < 35184372088832 then (notaryref03_Numbers.l2 k2 (x3_2 ++ [((((((Go.bits .xor .u32 (Go.bits .xor .u32 t251 t252) ((rd x3_2 (ji12)) / 1024)) + (rd x3_2 (wrap64 (x7_2 - 7)))) % 4294967296) + (Go.bits .xor .u32 (Go.bits .xor .u32 t253 t254) ((rd x3_2 (ji15)) / 8))) % 4294967296) + (rd x3_2 (wrap64 (x7_2 - 16)))) % 4294967296]) (wrap64 (x7_2 + 1))) else (none)) else (none)) else (none)) else (none)) else (none))) = some r := H
  have A20 := Aside0.mk A200
  clear A200
  replace H := Option.bind_eq_some_iff.mp H
  obtain ⟨t254, A210, H⟩ := H
  replace H : (if 0 ≤ (wrap64 (x7_2 - 7)) then (if (wrap64 (x7_2 - 7)) < (x3_2.length : Int) then (if 0 ≤ (wrap64 (x7_2 - 16)) then (if (wrap64 (x7_2 - 16)) < (x3_2.length : Int) then (if x3_2.length < 35184372088832 then (notaryref03_Numbers.l2 k2 (x3_2 ++ [((((((Go.bits .xor .u32 (Go.bits .xor .u32 t251 t252) ((rd x3_2 (ji12)) / 1024)) + (rd x3_2 (wrap64 (x7_2 - 7)))) % 4294967296) + (Go.bits .xor .u32 (Go.bits .xor .u32 t253 t254) ((rd x3_2 (ji15)) / 8))) % 4294967296) + (rd x3_2 (wrap64 (x7_2 - 16)))) % 4294967296]) (wrap64 (x7_2 + 1))) else (none)) else (none)) else (none)) else (none)) else (none)) = some r := H
  have A21 := Aside0.mk A210
  clear A210
  obtain ⟨ji22, hji22⟩ : ∃ j_ : Int, (wrap64 (x7_2 - 7)) = j_ := ⟨_, rfl⟩
  replace H : (if 0 ≤ (ji22) then (if (ji22) < (x3_2.length : Int) then (if 0 ≤ (wrap64 (x7_2 - 16)) then (if (wrap64 (x7_2 - 16)) < (x3_2.length : Int) then (if x3_2.length < 35184372088832 then (notaryref03_Numbers.l2 k2 (x3_2 ++ [((((((Go.bits .xor .u32 (Go.bits .xor .u32 t251 t252) ((rd x3_2 (ji12)) / 1024)) + (rd x3_2 (ji22))) % 4294967296) + (Go.bits .xor .u32 (Go.bits .xor .u32 t253 t254) ((rd x3_2 (ji15)) / 8))) % 4294967296) + (rd x3_2 (wrap64 (x7_2 - 16)))) % 4294967296]) (wrap64 (x7_2 + 1))) else (none)) else (none)) else (none)) else (none)) else (none)) = some r := by (rw [hji22] at H; exact H)
  (skip)
  (skip)
  (skip)
  (skip)
  have hji22w : (IntKind.i64.wrap (x7_2 - 7)) = ji22 := (i64_w _).trans hji22
  by_cases c23 : 0 ≤ (ji22)
  rotate_left
  · rw [if_neg c23] at H
    exact absurd H (by simp)
  rw [if_pos c23] at H
  have c23b0 : decide (0 ≤ (ji22)) = true := decide_eq_true c23
  clear c23
  by_cases c24 : (ji22) < (x3_2.length : Int)
  rotate_left
  · rw [if_neg c24] at H
    exact absurd H (by simp)
  rw [if_pos c24] at H
  have c24b0 : decide ((ji22) < (x3_2.length : Int)) = true := decide_eq_true c24
  clear c24
  obtain ⟨ji25, hji25⟩ : ∃ j_ : Int, (wrap64 (x7_2 - 16)) = j_ := ⟨_, rfl⟩
  replace H : (if 0 ≤ (ji25) then (if (ji25) < (x3_2.length : Int) then (if x3_2.length < 35184372088832 then (notaryref03_Numbers.l2 k2 (x3_2 ++ [((((((Go.bits .xor .u32 (Go.bits .xor .u32 t251 t252) ((rd x3_2 (ji12)) / 1024)) + (rd x3_2 (ji22))) % 4294967296) + (Go.bits .xor .u32 (Go.bits .xor .u32 t253 t254) ((rd x3_2 (ji15)) / 8))) % 4294967296) + (rd x3_2 (ji25))) % 4294967296]) (wrap64 (x7_2 + 1))) else (none)) else (none)) else (none)) = some r := by (rw [hji25] at H; exact H)
  (skip)
  (skip)
  (skip)
  (skip)
  have hji25w : (IntKind.i64.wrap (x7_2 - 16)) = ji25 := (i64_w _).trans hji25
  by_cases c26 : 0 ≤ (ji25)
  rotate_left
  · rw [if_neg c26] at H
    exact absurd H (by simp)
  rw [if_pos c26] at H
  have c26b0 : decide (0 ≤ (ji25)) = true := decide_eq_true c26
  clear c26
  by_cases c27 : (ji25) < (x3_2.length : Int)
  rotate_left
  · rw [if_neg c27] at H
    exact absurd H (by simp)
  rw [if_pos c27] at H
  have c27b0 : decide ((ji25) < (x3_2.length : Int)) = true := decide_eq_true c27
  clear c27
  by_cases c28 : x3_2.length < 35184372088832
  rotate_left
  · rw [if_neg c28] at H
    exact absurd H (by simp)
  rw [if_pos c28] at H
  have LMc28 := Aside0.mk c28
  clear c28
  obtain ⟨y257, hy257⟩ : ∃ y_ : List Int, y_ = (x3_2 ++ [((((((Go.bits .xor .u32 (Go.bits .xor .u32 t251 t252) ((rd x3_2 (ji12)) / 1024)) + (rd x3_2 (ji22))) % 4294967296) + (Go.bits .xor .u32 (Go.bits .xor .u32 t253 t254) ((rd x3_2 (ji15)) / 8))) % 4294967296) + (rd x3_2 (ji25))) % 4294967296]) := ⟨_, rfl⟩
  replace H : (notaryref03_Numbers.l2 k2 y257 (wrap64 (x7_2 + 1))) = some r := by (rw [hy257]; with_reducible exact H)
  have Ny257 := Aside0.mk hy257
  clear hy257
  have H' := Aside0.mk H
  clear H
  obtain ⟨Ao29, co29, eo29⟩ := Kd.R_slice HO_3.out
  subst eo29
  have p249 : 0 ≤ ((ji12) : Int) := of_decide_eq_true (by (with_reducible assumption))
  have q249 : (ji12) < (x3_2.length : Int) := of_decide_eq_true (by (with_reducible assumption))
  obtain ⟨ad249, e249, hx249_0⟩ := Kd.at_int (Kd.R_reads' HO_3.out).2.2 (ji12) p249 q249
  cases e249
  replace p249 := eq_true p249
  replace q249 := eq_true q249
  have p250 : 0 ≤ ((ji15) : Int) := of_decide_eq_true (by (with_reducible assumption))
  have q250 : (ji15) < (x3_2.length : Int) := of_decide_eq_true (by (with_reducible assumption))
  obtain ⟨ad250, e250, hx250_0⟩ := Kd.at_int (Kd.R_reads' HO_3.out).2.2 (ji15) p250 q250
  obtain rfl : ad249 = ad250 := (by injection e250)
  replace p250 := eq_true p250
  replace q250 := eq_true q250
  try go_wp2_with (first | ((with_reducible refine gate_callee (f := 88) rfl ?_); refine goesL_ (some 51) rfl rfl Try.func88 (by kernel_rfl) rfl #[.int .u32 (rd x3_2 (ji12)), .int .u64 17] rfl (by (try simp only [List.map_toArray, List.map_cons, List.map_nil]); (rfl)) ?_; (with_reducible refine (notaryref03_Rot.calls (rd x3_2 (ji12)) 17 t251 _ A18.out).mono ?_); rintro e w' ⟨rfl, ⟨nd, rfl⟩⟩; refine ⟨_, rfl, ?_⟩) | ((with_reducible refine gate_callee (f := 88) rfl ?_); refine goesL_ (some 53) rfl rfl Try.func88 (by kernel_rfl) rfl #[.int .u32 (rd x3_2 (ji12)), .int .u64 19] rfl (by (try simp only [List.map_toArray, List.map_cons, List.map_nil]); (rfl)) ?_; (with_reducible refine (notaryref03_Rot.calls (rd x3_2 (ji12)) 19 t252 _ A19.out).mono ?_); rintro e w' ⟨rfl, ⟨nd, rfl⟩⟩; refine ⟨_, rfl, ?_⟩) | ((with_reducible refine gate_callee (f := 88) rfl ?_); refine goesL_ (some 59) rfl rfl Try.func88 (by kernel_rfl) rfl #[.int .u32 (rd x3_2 (ji15)), .int .u64 7] rfl (by (try simp only [List.map_toArray, List.map_cons, List.map_nil]); (rfl)) ?_; (with_reducible refine (notaryref03_Rot.calls (rd x3_2 (ji15)) 7 t253 _ A20.out).mono ?_); rintro e w' ⟨rfl, ⟨nd, rfl⟩⟩; refine ⟨_, rfl, ?_⟩) | ((with_reducible refine gate_callee (f := 88) rfl ?_); refine goesL_ (some 61) rfl rfl Try.func88 (by kernel_rfl) rfl #[.int .u32 (rd x3_2 (ji15)), .int .u64 18] rfl (by (try simp only [List.map_toArray, List.map_cons, List.map_nil]); (rfl)) ?_; (with_reducible refine (notaryref03_Rot.calls (rd x3_2 (ji15)) 18 t254 _ A21.out).mono ?_); rintro e w' ⟨rfl, ⟨nd, rfl⟩⟩; refine ⟨_, rfl, ?_⟩))
  (try (rw [drewN_self wr]; generalize hq_ : World.drewN wr _ = wr; have n0_ : Aside0 (Kd.R (Kd.int .u32) 87 wr w.heap.size (fun _ => True) (.slice (some ad249) x3_2.length co29) x3_2) := ⟨by rw [← hq_]; exact (by (with_reducible repeat (apply Kd.R_drewN)); exact HO_3.out)⟩; have n1_ : Aside0 (Below w.heap.size w wr) := ⟨by rw [← hq_]; exact (by repeat (with_reducible first | exact HB.out | apply pw_below_drewN))⟩; clear HO_3 HB hq_; have HO_3 := n0_; have HB := n1_; clear n0_ n1_))
  have n0_ := Aside0.mk (Kd.R_drew HO_3.out)
  have n1_ := Aside0.mk (below_drew1 HB.out)
  clear HO_3
  clear HB
  have HO_3 := n0_
  have HB := n1_
  clear n0_ n1_
  have p255 : 0 ≤ ((ji22) : Int) := of_decide_eq_true (by (with_reducible assumption))
  have q255 : (ji22) < (x3_2.length : Int) := of_decide_eq_true (by (with_reducible assumption))
  obtain ⟨ad255, e255, hx255_0⟩ := Kd.at_int (Kd.R_reads' HO_3.out).2.2 (ji22) p255 q255
  obtain rfl : ad249 = ad255 := (by injection e255)
  replace p255 := eq_true p255
  replace q255 := eq_true q255
  have p256 : 0 ≤ ((ji25) : Int) := of_decide_eq_true (by (with_reducible assumption))
  have q256 : (ji25) < (x3_2.length : Int) := of_decide_eq_true (by (with_reducible assumption))
  obtain ⟨ad256, e256, hx256_0⟩ := Kd.at_int (Kd.R_reads' HO_3.out).2.2 (ji25) p256 q256
  obtain rfl : ad249 = ad256 := (by injection e256)
  replace p256 := eq_true p256
  replace q256 := eq_true q256
  refine start_ (n := 19) (S := fun w' => w'.cell? (ad249.add (ji22).toNat) = some (.int .u32 (rd x3_2 (ji22))) ∧ w'.cell? (ad249.add (ji25).toNat) = some (.int .u32 (rd x3_2 (ji25)))) (ds := [16, 17]) (bl 19 0) (by kernel_rfl) rfl rfl ⟨hx255_0, hx256_0⟩ (fun hHeld => ?_); refine with_tabW notaryref03_Numbers.tab18 notaryref03_Numbers.bits18 (fun HT_ HW_ => ?_)
  generalize wr.drew = w30 at HO_3 HB hx255_0 hx256_0 hHeld ⊢
  refine pure_ (i := 0) (N := some 66) (v := ?_) (a' := ?_) (bl 19 1) rfl rfl (any_of HT_.out (by kernel_rfl)) (fun _ _ _ h => h) (Or.inl ⟨by rfl, ?_⟩) ?_ ?_
  rotate_left
  · intro w'; go_simp; with_reducible rfl
  rotate_left
  · simp only [Act.put, sa_, sz_, ss_, i64_w, i32_w]; rfl
  refine pure_ (i := 1) (N := some 67) (v := ?_) (a' := ?_) (bl 19 3) rfl rfl (any_of HT_.out (by kernel_rfl)) (fun _ _ _ h => h) (Or.inl ⟨by rfl, ?_⟩) ?_ ?_
  rotate_left
  · intro w'; go_simp; with_reducible rfl
  rotate_left
  · simp only [Act.put, sa_, sz_, ss_, i64_w, i32_w]; rfl
  refine pure_ (i := 2) (N := some 68) (v := ?_) (a' := ?_) (bl 19 7) rfl rfl (any_of HT_.out (by kernel_rfl)) (fun _ _ _ h => h) (Or.inl ⟨by rfl, ?_⟩) ?_ ?_
  rotate_left
  · intro w'; go_simp; with_reducible rfl
  rotate_left
  · simp only [Act.put, sa_, sz_, ss_, i64_w, i32_w]; rfl
  refine pure_ (i := 3) (N := some 69) (v := ?_) (a' := ?_) (bl 19 15) rfl rfl (any_of HT_.out (by kernel_rfl)) (fun _ _ _ h => h) (Or.inl ⟨by rfl, ?_⟩) ?_ ?_
  rotate_left
  · intro w'; go_simp; with_reducible rfl
  rotate_left
  · simp only [Act.put, sa_, sz_, ss_, i64_w, i32_w]; rfl
  refine pure_ (i := 4) (N := some 70) (v := ?_) (a' := ?_) (bl 19 31) rfl rfl (any_of HT_.out (by kernel_rfl)) (fun _ _ _ h => h) (Or.inl ⟨by rfl, ?_⟩) ?_ ?_
  rotate_left
  · intro w'; go_simp; with_reducible rfl
  rotate_left
  · simp only [Act.put, sa_, sz_, ss_, i64_w, i32_w]; rfl
  refine pure_ (i := 5) (N := some 71) (v := ?_) (a' := ?_) (bl 19 63) rfl rfl (any_of HT_.out (by kernel_rfl)) (fun _ _ _ h => h) (Or.inl ⟨by rfl, ?_⟩) ?_ ?_
  rotate_left
  · intro w'; go_simp; with_reducible rfl
  rotate_left
  · simp only [Act.put, sa_, sz_, ss_, i64_w, i32_w]; rfl
  refine pure_ (i := 8) (N := some 74) (v := ?_) (a' := ?_) (bl 19 319) rfl rfl (any_of HT_.out (by kernel_rfl)) (fun _ _ _ h => h) (Or.inl ⟨by rfl, ?_⟩) ?_ ?_
  rotate_left
  · intro w'; go_simp; with_reducible rfl
  rotate_left
  · simp only [Act.put, sa_, sz_, ss_, i64_w, i32_w]; rfl
  refine pure_ (i := 10) (N := some 76) (v := ?_) (a' := ?_) (bl 19 1343) rfl rfl (any_of HT_.out (by kernel_rfl)) (fun _ _ _ h => h) (Or.inl ⟨by rfl, ?_⟩) ?_ ?_
  rotate_left
  · intro w'; go_simp; with_reducible rfl
  rotate_left
  · simp only [Act.put, sa_, sz_, ss_, i64_w, i32_w]; rfl
  refine pure_ (i := 11) (N := some 77) (v := ?_) (a' := ?_) (bl 19 3391) rfl rfl (any_of HT_.out (by kernel_rfl)) (fun _ _ _ h => h) (Or.inl ⟨by rfl, ?_⟩) ?_ ?_
  rotate_left
  · intro w'; go_simp; with_reducible rfl
  rotate_left
  · simp only [Act.put, sa_, sz_, ss_, i64_w, i32_w]; rfl
  refine pure_ (i := 12) (N := some 78) (v := ?_) (a' := ?_) (bl 19 7487) rfl rfl (any_of HT_.out (by kernel_rfl)) (fun _ _ _ h => h) (Or.inl ⟨by rfl, ?_⟩) ?_ ?_
  rotate_left
  · intro w'; go_simp; with_reducible rfl
  rotate_left
  · simp only [Act.put, sa_, sz_, ss_, i64_w, i32_w]; rfl
  refine pure_ (i := 13) (N := some 79) (v := ?_) (a' := ?_) (bl 19 15679) rfl rfl (any_of HT_.out (by kernel_rfl)) (fun _ _ _ h => h) (Or.inl ⟨by rfl, ?_⟩) ?_ ?_
  rotate_left
  · intro w'; go_simp; with_reducible rfl
  rotate_left
  · simp only [Act.put, sa_, sz_, ss_, i64_w, i32_w]; rfl
  refine take_ (i := 6) (N := some 72) (v := ?_) (a' := ?_) (bl 19 15743) rfl rfl (take_ofW HT_.out HW_.out (by kernel_rfl)) (fun _ _ _ h => h) (Or.inl ⟨by rfl, ?_⟩) hHeld ?_ ?_
  rotate_left
  · rintro w' ⟨s0, s1⟩
    go_simp
    with_reducible rfl
  rotate_left
  · simp only [Act.put, sa_, sz_, ss_, i64_w, i32_w]; rfl
  refine pure_ (i := 7) (N := some 73) (v := ?_) (a' := ?_) (bl 19 15871) rfl rfl (any_of HT_.out (by kernel_rfl)) (fun _ _ _ h => h) (Or.inl ⟨by rfl, ?_⟩) ?_ ?_
  rotate_left
  · intro w'; go_simp; with_reducible rfl
  rotate_left
  · simp only [Act.put, sa_, sz_, ss_, i64_w, i32_w]; rfl
  refine pure_ (i := 9) (N := some 75) (v := ?_) (a' := ?_) (bl 19 16383) rfl rfl (any_of HT_.out (by kernel_rfl)) (fun _ _ _ h => h) (Or.inl ⟨by rfl, ?_⟩) ?_ ?_
  rotate_left
  · intro w'; go_simp; with_reducible rfl
  rotate_left
  · simp only [Act.put, sa_, sz_, ss_, i64_w, i32_w]; rfl
  refine take_ (i := 14) (N := some 80) (v := ?_) (a' := ?_) (bl 19 32767) rfl rfl (take_ofW HT_.out HW_.out (by kernel_rfl)) (fun _ _ _ h => h) (Or.inl ⟨by rfl, ?_⟩) hHeld ?_ ?_
  rotate_left
  · rintro w' ⟨s0, s1⟩
    go_simp
    with_reducible rfl
  rotate_left
  · simp only [Act.put, sa_, sz_, ss_, i64_w, i32_w]; rfl
  refine pure_ (i := 15) (N := some 81) (v := ?_) (a' := ?_) (bl 19 65535) rfl rfl (any_of HT_.out (by kernel_rfl)) (fun _ _ _ h => h) (Or.inl ⟨by rfl, ?_⟩) ?_ ?_
  rotate_left
  · intro w'; go_simp; with_reducible rfl
  rotate_left
  · simp only [Act.put, sa_, sz_, ss_, i64_w, i32_w]; rfl
  refine last_ (i := 16) (N := some 82) (bl 19 131071) rfl rfl (one_of HT_.out (by kernel_rfl)) (by decide) (fun K hK => ?_)
  refine value_ (w1 := ?_) (v := ?_) (by rfl) rfl ?_ ?_
  rotate_left 2
  · go_simp
    constructor
    · rfl
    · rfl
  refine hK.out _ _ ?_
  clear hK K
  refine norm_ (a' := ?_) ?_ ?_
  rotate_left
  · show Act.put _ (some 82) _ = _
    simp only [Act.put, sa_, sz_, ss_, i64_w, i32_w]
    rfl
  refine last_ (i := 17) (N := some 83) (bl 19 262143) rfl rfl (one_of HT_.out (by kernel_rfl)) (by decide) (fun K hK => ?_)
  refine Kd.R_append_step (Kd.int .u32) (w0 := w) w.heap.size (by rfl) (.tmp 66) (.tmp 82) 113 87 (.int .u32 0) 4 rfl Try.underlying113 info87 rfl (by decide) (by omega) (.slice (some ad249) x3_2.length co29) x3_2 (((((((Go.bits .xor .u32 (Go.bits .xor .u32 t251 t252) ((rd x3_2 (ji12)) / 1024)) + (rd x3_2 (ji22))) % 4294967296) + (Go.bits .xor .u32 (Go.bits .xor .u32 t253 t254) ((rd x3_2 (ji15)) / 8))) % 4294967296) + (rd x3_2 (ji25))) % 4294967296) [.int .u32 (((((((Go.bits .xor .u32 (Go.bits .xor .u32 t251 t252) ((rd x3_2 (ji12)) / 1024)) + (rd x3_2 (ji22))) % 4294967296) + (Go.bits .xor .u32 (Go.bits .xor .u32 t253 t254) ((rd x3_2 (ji15)) / 8))) % 4294967296) + (rd x3_2 (ji25))) % 4294967296)] (fun _ => True) (fun _ => False) rfl rfl ?aP (fun _ hk => hk.elim) ?aF ?aO ?aB ?aS ?aL ?_
  (case aP => exact rfl)
  (case aB => exact HB.out)
  (case aF => exact (fun _ _ => trivial))
  (case aO => exact (by exact HO_3.out))
  (case aS => exact (below_size HB.out))
  (case aL => have := LMc28.out; omega)
  intro v258 w31 ho hb hg hat
  rw [← Ny257.out] at ho
  have n0_ := Aside0.mk (hb)
  have n1_ := Aside0.mk (ho)
  clear HB
  clear HO_3
  have HB := n0_
  have HO259 := n1_
  clear n0_ n1_
  clear ho hb hg hat
  refine hK.out _ _ ?_
  clear hK K
  refine norm_ (a' := ?_) ?_ ?_
  rotate_left
  · show Act.put _ (some 83) _ = _
    simp only [Act.put, sa_, sz_, ss_, i64_w, i32_w]
    rfl
  refine pure_ (i := 18) (N := some 3) (v := ?_) (a' := ?_) (bl 19 524287) rfl rfl (any_of HT_.out (by kernel_rfl)) (fun _ _ _ h => h) (Or.inl ⟨by rfl, ?_⟩) ?_ ?_
  rotate_left
  · intro w'; go_simp; with_reducible rfl
  rotate_left
  · simp only [Act.put, sa_, sz_, ss_, i64_w, i32_w]; rfl
  refine done_ (done_of HT_.out (by kernel_rfl)) ?_
  try go_wp2
  go_roundg k2
  case measure => have := HK1.out; have := HK2.out; omega
  case rel => exact ⟨(y257), (wrap64 (x7_2 + 1)), (by (rfl)), H', ⟨by have := HK1.out; have := HK2.out; omega⟩, ⟨by exact HO259.out⟩, ⟨HB.out⟩⟩
end Go.Proofs.Ytogjnipojakfjaa.PJd
