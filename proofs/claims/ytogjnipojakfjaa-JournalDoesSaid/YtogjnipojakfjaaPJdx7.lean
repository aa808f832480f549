-- SLIM: a printed text of which the unused ways are cut off
-- PRINTED by print.py (a twelfth state) out of the translation. Not trusted: Lean checks it.
import Derived.Test.YtogjnipojakfjaaPJdx0
import Derived.Test.YtogjnipojakfjaaPJdx6
namespace Go.Proofs.Ytogjnipojakfjaa.PJd
open Go.RowKit Go.Proofs.YtogjnipojakfjaaW.PrintWords Go.Proofs.YtogjnipojakfjaaW.PrintLast Go.Proofs.YtogjnipojakfjaaW.PrintMore
attribute [local go_sem] max2_int min2_int max_two min_two max_three min_three max_four min_four   -- for this text's walks alone
set_option linter.unusedVariables false
set_option linter.unusedSimpArgs false

/-! ### notaryref03_Block: function 79 -/
def notaryref03_Block.l0 : Nat → List Int → List Int → List Int → Int → Int → Int → Int → Int → Int → Int → Int → Int → Option (List Int)
  | 0, _, _, _, _, _, _, _, _, _, _, _, _ => none
  | k + 1, x0, x2, x7, x8, x9, x10, x11, x12, x13, x14, x15, x16 => if x16 < 64 then ((notaryref03_Rot.f x12 6).bind fun t282 => ((notaryref03_Rot.f x12 11).bind fun t283 => ((notaryref03_Rot.f x12 25).bind fun t284 => (if 0 ≤ x16 then (if x16 < (x2.length : Int) then (if x16 < (x7.length : Int) then ((notaryref03_Rot.f x8 2).bind fun t287 => ((notaryref03_Rot.f x8 13).bind fun t288 => ((notaryref03_Rot.f x8 22).bind fun t289 => (notaryref03_Block.l0 k x0 x2 x7 ((((((((((x15 + (Go.bits .xor .u32 (Go.bits .xor .u32 t282 t283) t284)) % 4294967296) + (Go.bits .xor .u32 (Go.bits .and .u32 x12 x13) (Go.bits .and .u32 (Go.bits .xor .u32 4294967295 x12) x14))) % 4294967296) + (rd x2 x16)) % 4294967296) + (rd x7 x16)) % 4294967296) + (((Go.bits .xor .u32 (Go.bits .xor .u32 t287 t288) t289) + (Go.bits .xor .u32 (Go.bits .xor .u32 (Go.bits .and .u32 x8 x9) (Go.bits .and .u32 x8 x10)) (Go.bits .and .u32 x9 x10))) % 4294967296)) % 4294967296) x8 x9 x10 ((x11 + ((((((((x15 + (Go.bits .xor .u32 (Go.bits .xor .u32 t282 t283) t284)) % 4294967296) + (Go.bits .xor .u32 (Go.bits .and .u32 x12 x13) (Go.bits .and .u32 (Go.bits .xor .u32 4294967295 x12) x14))) % 4294967296) + (rd x2 x16)) % 4294967296) + (rd x7 x16)) % 4294967296)) % 4294967296) x12 x13 x14 (wrap64 (x16 + 1)))))) else (none)) else (none)) else (none))))) else (if 0 < (x0.length : Int) then (if 1 < (x0.length : Int) then (if 2 < (x0.length : Int) then (if 3 < (x0.length : Int) then (if 4 < (x0.length : Int) then (if 5 < (x0.length : Int) then (if 6 < (x0.length : Int) then (if 7 < (x0.length : Int) then (some (([((rd x0 0) + x8) % 4294967296, ((rd x0 1) + x9) % 4294967296, ((rd x0 2) + x10) % 4294967296, ((rd x0 3) + x11) % 4294967296, ((rd x0 4) + x12) % 4294967296, ((rd x0 5) + x13) % 4294967296, ((rd x0 6) + x14) % 4294967296, ((rd x0 7) + x15) % 4294967296] : List Int))) else (none)) else (none)) else (none)) else (none)) else (none)) else (none)) else (none)) else (none))
def notaryref03_Block.f (k : Nat) (l0 : List Int) (l1 : List Int) (l2 : List Int) : Option (List Int) := (notaryref03_Numbers.f k l1).bind fun t260 => (if 0 < (l0.length : Int) then (if 1 < (l0.length : Int) then (if 2 < (l0.length : Int) then (if 3 < (l0.length : Int) then (if 4 < (l0.length : Int) then (if 5 < (l0.length : Int) then (if 6 < (l0.length : Int) then (if 7 < (l0.length : Int) then (notaryref03_Block.l0 k l0 l2 t260 (rd l0 0) (rd l0 1) (rd l0 2) (rd l0 3) (rd l0 4) (rd l0 5) (rd l0 6) (rd l0 7) 0) else (none)) else (none)) else (none)) else (none)) else (none)) else (none)) else (none)) else (none))
def notaryref03_Block.T2 : Bool × List (List Nat × List Nat) := (true, [([], []), ([0], [0]), ([1], [1]), ([], []), ([3], [3]), ([4], [4]), ([], []), ([6], [6]), ([7], [7]), ([], []), ([9], [9]), ([10], [10]), ([2, 0, 1, 2], [2]), ([5, 12, 0, 1, 2, 3, 4, 5, 12], [5]), ([8, 13, 0, 1, 2, 3, 4, 5, 6, 7, 8, 12, 13], [8]), ([11, 14, 0, 1, 2, 3, 4, 5, 6, 7, 8, 9, 10, 11, 12, 13, 14], [11])])
def notaryref03_Block.B2 : List Nat := [0, 1, 3, 0, 8, 24, 0, 64, 192, 0, 512, 1536, 7, 4159, 12799, 32767]
theorem notaryref03_Block.tab2 : rtab .any (opsOf Try.f79 2) = notaryref03_Block.T2 := by kernel_rfl
theorem notaryref03_Block.bits2 : waitsOk notaryref03_Block.T2.2 notaryref03_Block.B2 = true := by kernel_rfl
def notaryref03_Block.T3 : Bool × List (List Nat × List Nat) := (true, [([], []), ([0], [0]), ([1], [1]), ([], []), ([3], [3]), ([4], [4]), ([], []), ([6], [6]), ([7], [7]), ([], []), ([9], [9]), ([10], [10]), ([2, 0, 1, 2], [2]), ([5, 12, 0, 1, 2, 3, 4, 5, 12], [5]), ([8, 13, 0, 1, 2, 3, 4, 5, 6, 7, 8, 12, 13], [8]), ([11, 14, 0, 1, 2, 3, 4, 5, 6, 7, 8, 9, 10, 11, 12, 13, 14], [11])])
def notaryref03_Block.B3 : List Nat := [0, 1, 3, 0, 8, 24, 0, 64, 192, 0, 512, 1536, 7, 4159, 12799, 32767]
theorem notaryref03_Block.tab3 : rtab .any (opsOf Try.f79 3) = notaryref03_Block.T3 := by kernel_rfl
theorem notaryref03_Block.bits3 : waitsOk notaryref03_Block.T3.2 notaryref03_Block.B3 = true := by kernel_rfl
def notaryref03_Block.T7 : Bool × List (List Nat × List Nat) := (true, [([], []), ([], []), ([1], [1]), ([], []), ([3, 2], [3]), ([2, 4], [2, 4]), ([], []), ([6, 4], [6]), ([5, 7], [5, 7]), ([0, 8], [0, 8]), ([], []), ([], []), ([10, 11], [10, 11]), ([], []), ([13], [13]), ([], []), ([14, 15], [14, 15]), ([12, 16], [12, 16]), ([9, 17], [9, 17]), ([], []), ([], []), ([19, 20], [19, 20]), ([21], [21]), ([18, 22], [18, 22]), ([], []), ([], []), ([24, 25], [24, 25]), ([26], [26]), ([23, 27], [23, 27]), ([28, 7, 0, 1, 2, 3, 4, 5, 6, 7, 8, 9, 10, 11, 12, 13, 14, 15, 16, 17, 18, 19, 20, 21, 22, 23, 24, 25, 26, 27, 28], [28])])
def notaryref03_Block.B7 : List Nat := [0, 0, 2, 0, 14, 30, 0, 94, 254, 511, 0, 0, 3072, 0, 8192, 0, 57344, 130048, 262143, 0, 0, 1572864, 3670016, 8388607, 0, 0, 50331648, 117440512, 268435455, 536870911]
theorem notaryref03_Block.tab7 : rtab .any (opsOf Try.f79 7) = notaryref03_Block.T7 := by kernel_rfl
theorem notaryref03_Block.bits7 : waitsOk notaryref03_Block.T7.2 notaryref03_Block.B7 = true := by kernel_rfl
def notaryref03_Block.T17 : Bool × List (List Nat × List Nat) := (true, [([], []), ([0], [0]), ([1], [1]), ([], []), ([2, 3], [2, 3]), ([], []), ([5], [5]), ([6], [6]), ([], []), ([7, 8], [7, 8]), ([], []), ([10], [10]), ([11], [11]), ([], []), ([12, 13], [12, 13]), ([], []), ([15], [15]), ([16], [16]), ([], []), ([17, 18], [17, 18]), ([], []), ([20], [20]), ([21], [21]), ([], []), ([22, 23], [22, 23]), ([], []), ([25], [25]), ([26], [26]), ([], []), ([27, 28], [27, 28]), ([], []), ([30], [30]), ([31], [31]), ([], []), ([32, 33], [32, 33]), ([], []), ([35], [35]), ([36], [36]), ([], []), ([37, 38], [37, 38]), ([4, 9, 14, 19, 24, 29, 34, 39], [4, 9, 14, 19, 24, 29, 34, 39]), ([40, 0, 1, 2, 3, 4, 5, 6, 7, 8, 9, 10, 11, 12, 13, 14, 15, 16, 17, 18, 19, 20, 21, 22, 23, 24, 25, 26, 27, 28, 29, 30, 31, 32, 33, 34, 35, 36, 37, 38, 39, 40], [40])])
def notaryref03_Block.B17 : List Nat := [0, 1, 3, 0, 15, 0, 32, 96, 0, 480, 0, 1024, 3072, 0, 15360, 0, 32768, 98304, 0, 491520, 0, 1048576, 3145728, 0, 15728640, 0, 33554432, 100663296, 0, 503316480, 0, 1073741824, 3221225472, 0, 16106127360, 0, 34359738368, 103079215104, 0, 515396075520, 1099511627775, 2199023255551]
theorem notaryref03_Block.tab17 : rtab .any (opsOf Try.f79 17) = notaryref03_Block.T17 := by kernel_rfl
theorem notaryref03_Block.bits17 : waitsOk notaryref03_Block.T17.2 notaryref03_Block.B17 = true := by kernel_rfl
set_option maxHeartbeats 8000000 in
set_option maxRecDepth 100000 in
theorem notaryref03_Block.calls (k : Nat) (A0 : Option Addr) (c0 : Nat) (l0 : List Int) (A1 : Option Addr) (c1 : Nat) (l1 : List Int) (A2 : Option Addr) (c2 : Nat) (l2 : List Int) (r : List Int) (w : World) (hr0 : Kd.C (Kd.int .u32) w A0 l0.length l0) (hc0 : l0.length ≤ c0) (hr1 : Kd.C (Kd.int .u8) w A1 l1.length l1) (hc1 : l1.length ≤ c1) (hr2 : Kd.C (Kd.int .u32) w A2 l2.length l2) (hc2 : l2.length ≤ c2) (h : notaryref03_Block.f k l0 l1 l2 = some r) :
    Calls Try.prog 79 #[.slice A0 l0.length c0, .slice A1 l1.length c1, .slice A2 l2.length c2] w fun e w' => ∃ v0_ : Value, e = .returned (v0_) ∧ Kd.R (Kd.int .u32) 87 w' w.heap.size (fun _ => True) v0_ r ∧ Below w.heap.size w w' := by
  have HR0 := Aside0.mk hr0
  have HC0 := Aside0.mk hc0
  clear hr0 hc0
  have HR1 := Aside0.mk hr1
  have HC1 := Aside0.mk hc1
  clear hr1 hc1
  have HR2 := Aside0.mk hr2
  have HC2 := Aside0.mk hc2
  clear hr2 hc2
  have HB := Aside0.mk (Below.refl w.heap.size w)
  have H : ((notaryref03_Numbers.f k l1).bind fun t260 => (if 0 < (l0.length : Int) then (if 1 < (l0.length : Int) then (if 2 < (l0.length : Int) then (if 3 < (l0.length : Int) then (if 4 < (l0.length : Int) then (if 5 < (l0.length : Int) then (if 6 < (l0.length : Int) then (if 7 < (l0.length : Int) then (notaryref03_Block.l0 k l0 l2 t260 (rd l0 0) (rd l0 1) (rd l0 2) (rd l0 3) (rd l0 4) (rd l0 5) (rd l0 6) (rd l0 7) 0) else (none)) else (none)) else (none)) else (none)) else (none)) else (none)) else (none)) else (none))) = some r := h
  clear h
  replace H := Option.bind_eq_some_iff.mp H
  obtain ⟨t260, A40, H⟩ := H
  replace H : (if 0 < (l0.length : Int) then (if 1 < (l0.length : Int) then (if 2 < (l0.length : Int) then (if 3 < (l0.length : Int) then (if 4 < (l0.length : Int) then (if 5 < (l0.length : Int) then (if 6 < (l0.length : Int) then (if 7 < (l0.length : Int) then (notaryref03_Block.l0 k l0 l2 t260 (rd l0 0) (rd l0 1) (rd l0 2) (rd l0 3) (rd l0 4) (rd l0 5) (rd l0 6) (rd l0 7) 0) else (none)) else (none)) else (none)) else (none)) else (none)) else (none)) else (none)) else (none)) = some r := H
  have A4 := Aside0.mk A40
  clear A40
  by_cases c5 : 0 < (l0.length : Int)
  rotate_left
  · rw [if_neg c5] at H
    exact absurd H (by simp)

  rw [if_pos c5] at H
  have c5b0 : decide (0 < (l0.length : Int)) = true := decide_eq_true c5
  have c5b1 : decide (0 < l0.length) = true := decide_eq_true (by omega)
  clear c5
  by_cases c6 : 1 < (l0.length : Int)
  rotate_left
  · rw [if_neg c6] at H
    exact absurd H (by simp)
  rw [if_pos c6] at H
  have c6b0 : decide (1 < (l0.length : Int)) = true := decide_eq_true c6
  have c6b1 : decide (1 < l0.length) = true := decide_eq_true (by omega)
  clear c6
  by_cases c7 : 2 < (l0.length : Int)
  rotate_left
  · rw [if_neg c7] at H
    exact absurd H (by simp)
  rw [if_pos c7] at H
  have c7b0 : decide (2 < (l0.length : Int)) = true := decide_eq_true c7
  have c7b1 : decide (2 < l0.length) = true := decide_eq_true (by omega)
  clear c7
  by_cases c8 : 3 < (l0.length : Int)
  rotate_left
  · rw [if_neg c8] at H
    exact absurd H (by simp)
  rw [if_pos c8] at H
  have c8b0 : decide (3 < (l0.length : Int)) = true := decide_eq_true c8
  have c8b1 : decide (3 < l0.length) = true := decide_eq_true (by omega)
  clear c8
  by_cases c9 : 4 < (l0.length : Int)
  rotate_left
  · rw [if_neg c9] at H
    exact absurd H (by simp)
  rw [if_pos c9] at H
  have c9b0 : decide (4 < (l0.length : Int)) = true := decide_eq_true c9
  have c9b1 : decide (4 < l0.length) = true := decide_eq_true (by omega)
  clear c9
  by_cases c10 : 5 < (l0.length : Int)
  rotate_left
  · rw [if_neg c10] at H
    exact absurd H (by simp)
  rw [if_pos c10] at H
  have c10b0 : decide (5 < (l0.length : Int)) = true := decide_eq_true c10
  have c10b1 : decide (5 < l0.length) = true := decide_eq_true (by omega)
  clear c10
  by_cases c11 : 6 < (l0.length : Int)
  rotate_left
  · rw [if_neg c11] at H
    exact absurd H (by simp)
  rw [if_pos c11] at H
  have c11b0 : decide (6 < (l0.length : Int)) = true := decide_eq_true c11
  have c11b1 : decide (6 < l0.length) = true := decide_eq_true (by omega)
  clear c11
  by_cases c12 : 7 < (l0.length : Int)
  rotate_left
  · rw [if_neg c12] at H
    exact absurd H (by simp)
  rw [if_pos c12] at H
  have c12b0 : decide (7 < (l0.length : Int)) = true := decide_eq_true c12
  have c12b1 : decide (7 < l0.length) = true := decide_eq_true (by omega)
  clear c12
  have H' := Aside0.mk H
  clear H
  go_enter Try.func79, Try.ntmps79
  try go_wp2_with ((((with_reducible refine gate_callee (f := 87) rfl ?_); refine goesL_ (some 20) rfl rfl Try.func87 (by kernel_rfl) rfl #[.slice A1 l1.length c1] rfl (by (try simp only [List.map_toArray, List.map_cons, List.map_nil]); (rfl)) ?_; (with_reducible refine (notaryref03_Numbers.calls k _ _ l1 t260 _ ?side1 ?side2 A4.out).mono ?_); (case side1 => repeat (exact HR1.out)); (case side2 => exact HC1.out); rintro e w13 ⟨v261, rfl, ho0, hb⟩; refine ⟨_, rfl, ?_⟩; have n0_ := Aside0.mk (Kd.R_lower ho0 (below_size HB.out)); have n1_ := Aside0.mk (below_step HB.out hb); clear HB; have HO262 := n0_; have HB := n1_; clear n0_ n1_; (try clear hb); (try clear ho0))))
  have n0_ := Aside0.mk (Kd.R_drew HO262.out)
  have n1_ := Aside0.mk (below_drew1 HB.out)
  clear HO262
  clear HB
  have HO262 := n0_
  have HB := n1_
  clear n0_ n1_
  have p263 : 0 ≤ (0 : Int) := (by omega)
  have q263 : 0 < (l0.length : Int) := of_decide_eq_true (by (with_reducible assumption))
  obtain ⟨ad263, e263, hx263_0⟩ := Kd.at_int HR0.out 0 p263 q263
  have hw263_0 := hx263_0
  (try rw [show (0 : Int).toNat = 0 from rfl] at hw263_0)
  (skip)
  (try rw [Addr.add_zero'] at hw263_0)
  cases e263
  have qi263 : (0 < l0.length) = True := eq_true (by omega)
  (try rw [show (0 : Int).toNat = 0 from rfl] at hx263_0)
  (try rw [Addr.add_zero'] at hx263_0)
  replace hx263_0 := pw_cell_below HB.out hx263_0
  replace p263 := eq_true p263
  replace q263 := eq_true q263
  have p264 : 0 ≤ (1 : Int) := (by omega)
  have q264 : 1 < (l0.length : Int) := of_decide_eq_true (by (with_reducible assumption))
  obtain ⟨ad264, e264, hx264_0⟩ := Kd.at_int HR0.out 1 p264 q264
  have hw264_0 := hx264_0
  (try rw [show (1 : Int).toNat = 1 from rfl] at hw264_0)
  (skip)
  (try simp only [Nat.reduceMul, Nat.reduceEqDiff, Go.Addr.add, ↓reduceIte] at hw264_0)
  obtain rfl : ad263 = ad264 := (by injection e264)
  (try simp only [show (1 : Int).toNat = 1 from rfl, Nat.reduceMul, Nat.reduceEqDiff, Go.Addr.add, ↓reduceIte] at hx264_0)
  have qi264 : (1 < l0.length) = True := eq_true (by omega)
  (skip)
  replace hx264_0 := pw_cell_below HB.out hx264_0
  replace p264 := eq_true p264
  replace q264 := eq_true q264
  have p265 : 0 ≤ (2 : Int) := (by omega)
  have q265 : 2 < (l0.length : Int) := of_decide_eq_true (by (with_reducible assumption))
  obtain ⟨ad265, e265, hx265_0⟩ := Kd.at_int HR0.out 2 p265 q265
  have hw265_0 := hx265_0
  (try rw [show (2 : Int).toNat = 2 from rfl] at hw265_0)
  (skip)
  (try simp only [Nat.reduceMul, Nat.reduceEqDiff, Go.Addr.add, ↓reduceIte] at hw265_0)
  obtain rfl : ad263 = ad265 := (by injection e265)
  (try simp only [show (2 : Int).toNat = 2 from rfl, Nat.reduceMul, Nat.reduceEqDiff, Go.Addr.add, ↓reduceIte] at hx265_0)
  have qi265 : (2 < l0.length) = True := eq_true (by omega)
  (skip)
  replace hx265_0 := pw_cell_below HB.out hx265_0
  replace p265 := eq_true p265
  replace q265 := eq_true q265
  have p266 : 0 ≤ (3 : Int) := (by omega)
  have q266 : 3 < (l0.length : Int) := of_decide_eq_true (by (with_reducible assumption))
  obtain ⟨ad266, e266, hx266_0⟩ := Kd.at_int HR0.out 3 p266 q266
  have hw266_0 := hx266_0
  (try rw [show (3 : Int).toNat = 3 from rfl] at hw266_0)
  (skip)
  (try simp only [Nat.reduceMul, Nat.reduceEqDiff, Go.Addr.add, ↓reduceIte] at hw266_0)
  obtain rfl : ad263 = ad266 := (by injection e266)
  (try simp only [show (3 : Int).toNat = 3 from rfl, Nat.reduceMul, Nat.reduceEqDiff, Go.Addr.add, ↓reduceIte] at hx266_0)
  have qi266 : (3 < l0.length) = True := eq_true (by omega)
  (skip)
  replace hx266_0 := pw_cell_below HB.out hx266_0
  replace p266 := eq_true p266
  replace q266 := eq_true q266
  refine start_ (n := 16) (S := fun w' => w'.cell? ad263 = some (.int .u32 (rd l0 0)) ∧ w'.cell? ⟨ad263.block, ad263.off + 1, none⟩ = some (.int .u32 (rd l0 1)) ∧ w'.cell? ⟨ad263.block, ad263.off + 2, none⟩ = some (.int .u32 (rd l0 2)) ∧ w'.cell? ⟨ad263.block, ad263.off + 3, none⟩ = some (.int .u32 (rd l0 3))) (ds := []) (bl 16 0) (by kernel_rfl) rfl rfl ⟨(pw_cell_below HB.out hw263_0), (pw_cell_below HB.out hw264_0), (pw_cell_below HB.out hw265_0), (pw_cell_below HB.out hw266_0)⟩ (fun hHeld => ?_); refine with_tabW notaryref03_Block.tab2 notaryref03_Block.bits2 (fun HT_ HW_ => ?_)
  generalize w13.drew = w14 at HO262 HB hx263_0 hx264_0 hx265_0 hx266_0 hHeld ⊢
  refine pure_ (i := 0) (N := some 21) (v := ?_) (a' := ?_) (bl 16 1) rfl rfl (any_of HT_.out (by kernel_rfl)) (fun _ _ _ h => h) (Or.inl ⟨by rfl, ?_⟩) ?_ ?_
  rotate_left
  · intro w'; go_simp; with_reducible rfl
  rotate_left
  · simp only [Act.put, sa_, sz_, ss_, i64_w, i32_w]; rfl
  refine pure_ (i := 1) (N := some 22) (v := ?_) (a' := ?_) (bl 16 3) rfl rfl (any_of HT_.out (by kernel_rfl)) (fun _ _ _ h => h) (Or.inl ⟨by rfl, ?_⟩) ?_ ?_
  rotate_left
  · intro w'; go_simp; with_reducible rfl
  rotate_left
  · simp only [Act.put, sa_, sz_, ss_, i64_w, i32_w]; rfl
  refine pure_ (i := 3) (N := some 24) (v := ?_) (a' := ?_) (bl 16 11) rfl rfl (any_of HT_.out (by kernel_rfl)) (fun _ _ _ h => h) (Or.inl ⟨by rfl, ?_⟩) ?_ ?_
  rotate_left
  · intro w'; go_simp; with_reducible rfl
  rotate_left
  · simp only [Act.put, sa_, sz_, ss_, i64_w, i32_w]; rfl
  refine pure_ (i := 4) (N := some 25) (v := ?_) (a' := ?_) (bl 16 27) rfl rfl (any_of HT_.out (by kernel_rfl)) (fun _ _ _ h => h) (Or.inl ⟨by rfl, ?_⟩) ?_ ?_
  rotate_left
  · intro w'; go_simp; with_reducible rfl
  rotate_left
  · simp only [Act.put, sa_, sz_, ss_, i64_w, i32_w]; rfl
  refine pure_ (i := 6) (N := some 27) (v := ?_) (a' := ?_) (bl 16 91) rfl rfl (any_of HT_.out (by kernel_rfl)) (fun _ _ _ h => h) (Or.inl ⟨by rfl, ?_⟩) ?_ ?_
  rotate_left
  · intro w'; go_simp; with_reducible rfl
  rotate_left
  · simp only [Act.put, sa_, sz_, ss_, i64_w, i32_w]; rfl
  refine pure_ (i := 7) (N := some 28) (v := ?_) (a' := ?_) (bl 16 219) rfl rfl (any_of HT_.out (by kernel_rfl)) (fun _ _ _ h => h) (Or.inl ⟨by rfl, ?_⟩) ?_ ?_
  rotate_left
  · intro w'; go_simp; with_reducible rfl
  rotate_left
  · simp only [Act.put, sa_, sz_, ss_, i64_w, i32_w]; rfl
  refine pure_ (i := 9) (N := some 30) (v := ?_) (a' := ?_) (bl 16 731) rfl rfl (any_of HT_.out (by kernel_rfl)) (fun _ _ _ h => h) (Or.inl ⟨by rfl, ?_⟩) ?_ ?_
  rotate_left
  · intro w'; go_simp; with_reducible rfl
  rotate_left
  · simp only [Act.put, sa_, sz_, ss_, i64_w, i32_w]; rfl
  refine pure_ (i := 10) (N := some 31) (v := ?_) (a' := ?_) (bl 16 1755) rfl rfl (any_of HT_.out (by kernel_rfl)) (fun _ _ _ h => h) (Or.inl ⟨by rfl, ?_⟩) ?_ ?_
  rotate_left
  · intro w'; go_simp; with_reducible rfl
  rotate_left
  · simp only [Act.put, sa_, sz_, ss_, i64_w, i32_w]; rfl
  refine take_ (i := 2) (N := some 23) (v := ?_) (a' := ?_) (bl 16 1759) rfl rfl (take_ofW HT_.out HW_.out (by kernel_rfl)) (fun _ _ _ h => h) (Or.inl ⟨by rfl, ?_⟩) hHeld ?_ ?_
  rotate_left
  · rintro w' ⟨s0, s1, s2, s3⟩
    go_simp
    with_reducible rfl
  rotate_left
  · simp only [Act.put, sa_, sz_, ss_, i64_w, i32_w]; rfl
  refine pure_ (i := 12) (N := some 8) (v := ?_) (a' := ?_) (bl 16 5855) rfl rfl (any_of HT_.out (by kernel_rfl)) (fun _ _ _ h => h) (Or.inl ⟨by rfl, ?_⟩) ?_ ?_
  rotate_left
  · intro w'; go_simp; with_reducible rfl
  rotate_left
  · simp only [Act.put, sa_, sz_, ss_, i64_w, i32_w]; rfl
  refine take_ (i := 5) (N := some 26) (v := ?_) (a' := ?_) (bl 16 5887) rfl rfl (take_ofW HT_.out HW_.out (by kernel_rfl)) (fun _ _ _ h => h) (Or.inl ⟨by rfl, ?_⟩) hHeld ?_ ?_
  rotate_left
  · rintro w' ⟨s0, s1, s2, s3⟩
    go_simp
    with_reducible rfl
  rotate_left
  · simp only [Act.put, sa_, sz_, ss_, i64_w, i32_w]; rfl
  refine pure_ (i := 13) (N := some 9) (v := ?_) (a' := ?_) (bl 16 14079) rfl rfl (any_of HT_.out (by kernel_rfl)) (fun _ _ _ h => h) (Or.inl ⟨by rfl, ?_⟩) ?_ ?_
  rotate_left
  · intro w'; go_simp; with_reducible rfl
  rotate_left
  · simp only [Act.put, sa_, sz_, ss_, i64_w, i32_w]; rfl
  refine take_ (i := 8) (N := some 29) (v := ?_) (a' := ?_) (bl 16 14335) rfl rfl (take_ofW HT_.out HW_.out (by kernel_rfl)) (fun _ _ _ h => h) (Or.inl ⟨by rfl, ?_⟩) hHeld ?_ ?_
  rotate_left
  · rintro w' ⟨s0, s1, s2, s3⟩
    go_simp
    with_reducible rfl
  rotate_left
  · simp only [Act.put, sa_, sz_, ss_, i64_w, i32_w]; rfl
  refine pure_ (i := 14) (N := some 10) (v := ?_) (a' := ?_) (bl 16 30719) rfl rfl (any_of HT_.out (by kernel_rfl)) (fun _ _ _ h => h) (Or.inl ⟨by rfl, ?_⟩) ?_ ?_
  rotate_left
  · intro w'; go_simp; with_reducible rfl
  rotate_left
  · simp only [Act.put, sa_, sz_, ss_, i64_w, i32_w]; rfl
  refine take_ (i := 11) (N := some 32) (v := ?_) (a' := ?_) (bl 16 32767) rfl rfl (take_ofW HT_.out HW_.out (by kernel_rfl)) (fun _ _ _ h => h) (Or.inl ⟨by rfl, ?_⟩) hHeld ?_ ?_
  rotate_left
  · rintro w' ⟨s0, s1, s2, s3⟩
    go_simp
    with_reducible rfl
  rotate_left
  · simp only [Act.put, sa_, sz_, ss_, i64_w, i32_w]; rfl
  refine pure_ (i := 15) (N := some 11) (v := ?_) (a' := ?_) (bl 16 65535) rfl rfl (any_of HT_.out (by kernel_rfl)) (fun _ _ _ h => h) (Or.inl ⟨by rfl, ?_⟩) ?_ ?_
  rotate_left
  · intro w'; go_simp; with_reducible rfl
  rotate_left
  · simp only [Act.put, sa_, sz_, ss_, i64_w, i32_w]; rfl
  refine done_ (done_of HT_.out (by kernel_rfl)) ?_
  try go_wp2
  have n0_ := Aside0.mk (Kd.R_drew HO262.out)
  have n1_ := Aside0.mk (below_drew1 HB.out)
  clear HO262
  clear HB
  have HO262 := n0_
  have HB := n1_
  clear n0_ n1_
  have p267 : 0 ≤ (4 : Int) := (by omega)
  have q267 : 4 < (l0.length : Int) := of_decide_eq_true (by (with_reducible assumption))
  obtain ⟨ad267, e267, hx267_0⟩ := Kd.at_int HR0.out 4 p267 q267
  have hw267_0 := hx267_0
  (try rw [show (4 : Int).toNat = 4 from rfl] at hw267_0)
  (skip)
  (try simp only [Nat.reduceMul, Nat.reduceEqDiff, Go.Addr.add, ↓reduceIte] at hw267_0)
  obtain rfl : ad263 = ad267 := (by injection e267)
  (try simp only [show (4 : Int).toNat = 4 from rfl, Nat.reduceMul, Nat.reduceEqDiff, Go.Addr.add, ↓reduceIte] at hx267_0)
  have qi267 : (4 < l0.length) = True := eq_true (by omega)
  (skip)
  replace hx267_0 := pw_cell_below HB.out hx267_0
  replace p267 := eq_true p267
  replace q267 := eq_true q267
  have p268 : 0 ≤ (5 : Int) := (by omega)
  have q268 : 5 < (l0.length : Int) := of_decide_eq_true (by (with_reducible assumption))
  obtain ⟨ad268, e268, hx268_0⟩ := Kd.at_int HR0.out 5 p268 q268
  have hw268_0 := hx268_0
  (try rw [show (5 : Int).toNat = 5 from rfl] at hw268_0)
  (skip)
  (try simp only [Nat.reduceMul, Nat.reduceEqDiff, Go.Addr.add, ↓reduceIte] at hw268_0)
  obtain rfl : ad263 = ad268 := (by injection e268)
  (try simp only [show (5 : Int).toNat = 5 from rfl, Nat.reduceMul, Nat.reduceEqDiff, Go.Addr.add, ↓reduceIte] at hx268_0)
  have qi268 : (5 < l0.length) = True := eq_true (by omega)
  (skip)
  replace hx268_0 := pw_cell_below HB.out hx268_0
  replace p268 := eq_true p268
  replace q268 := eq_true q268
  have p269 : 0 ≤ (6 : Int) := (by omega)
  have q269 : 6 < (l0.length : Int) := of_decide_eq_true (by (with_reducible assumption))
  obtain ⟨ad269, e269, hx269_0⟩ := Kd.at_int HR0.out 6 p269 q269
  have hw269_0 := hx269_0
  (try rw [show (6 : Int).toNat = 6 from rfl] at hw269_0)
  (skip)
  (try simp only [Nat.reduceMul, Nat.reduceEqDiff, Go.Addr.add, ↓reduceIte] at hw269_0)
  obtain rfl : ad263 = ad269 := (by injection e269)
  (try simp only [show (6 : Int).toNat = 6 from rfl, Nat.reduceMul, Nat.reduceEqDiff, Go.Addr.add, ↓reduceIte] at hx269_0)
  have qi269 : (6 < l0.length) = True := eq_true (by omega)
  (skip)
  replace hx269_0 := pw_cell_below HB.out hx269_0
  replace p269 := eq_true p269
  replace q269 := eq_true q269
  have p270 : 0 ≤ (7 : Int) := (by omega)
  have q270 : 7 < (l0.length : Int) := of_decide_eq_true (by (with_reducible assumption))
  obtain ⟨ad270, e270, hx270_0⟩ := Kd.at_int HR0.out 7 p270 q270
  have hw270_0 := hx270_0
  (try rw [show (7 : Int).toNat = 7 from rfl] at hw270_0)
  (skip)
  (try simp only [Nat.reduceMul, Nat.reduceEqDiff, Go.Addr.add, ↓reduceIte] at hw270_0)
  obtain rfl : ad263 = ad270 := (by injection e270)
  (try simp only [show (7 : Int).toNat = 7 from rfl, Nat.reduceMul, Nat.reduceEqDiff, Go.Addr.add, ↓reduceIte] at hx270_0)
  have qi270 : (7 < l0.length) = True := eq_true (by omega)
  (skip)
  replace hx270_0 := pw_cell_below HB.out hx270_0
  replace p270 := eq_true p270
  replace q270 := eq_true q270
  refine start_ (n := 16) (S := fun w' => w'.cell? ⟨ad263.block, ad263.off + 4, none⟩ = some (.int .u32 (rd l0 4)) ∧ w'.cell? ⟨ad263.block, ad263.off + 5, none⟩ = some (.int .u32 (rd l0 5)) ∧ w'.cell? ⟨ad263.block, ad263.off + 6, none⟩ = some (.int .u32 (rd l0 6)) ∧ w'.cell? ⟨ad263.block, ad263.off + 7, none⟩ = some (.int .u32 (rd l0 7))) (ds := []) (bl 16 0) (by kernel_rfl) rfl rfl ⟨(pw_cell_below HB.out hw267_0), (pw_cell_below HB.out hw268_0), (pw_cell_below HB.out hw269_0), (pw_cell_below HB.out hw270_0)⟩ (fun hHeld => ?_); refine with_tabW notaryref03_Block.tab3 notaryref03_Block.bits3 (fun HT_ HW_ => ?_)
  generalize w14.drew = w15 at HO262 HB hx267_0 hx268_0 hx269_0 hx270_0 hHeld ⊢
  refine pure_ (i := 0) (N := some 33) (v := ?_) (a' := ?_) (bl 16 1) rfl rfl (any_of HT_.out (by kernel_rfl)) (fun _ _ _ h => h) (Or.inl ⟨by rfl, ?_⟩) ?_ ?_
  rotate_left
  · intro w'; go_simp; with_reducible rfl
  rotate_left
  · simp only [Act.put, sa_, sz_, ss_, i64_w, i32_w]; rfl
  refine pure_ (i := 1) (N := some 34) (v := ?_) (a' := ?_) (bl 16 3) rfl rfl (any_of HT_.out (by kernel_rfl)) (fun _ _ _ h => h) (Or.inl ⟨by rfl, ?_⟩) ?_ ?_
  rotate_left
  · intro w'; go_simp; with_reducible rfl
  rotate_left
  · simp only [Act.put, sa_, sz_, ss_, i64_w, i32_w]; rfl
  refine pure_ (i := 3) (N := some 36) (v := ?_) (a' := ?_) (bl 16 11) rfl rfl (any_of HT_.out (by kernel_rfl)) (fun _ _ _ h => h) (Or.inl ⟨by rfl, ?_⟩) ?_ ?_
  rotate_left
  · intro w'; go_simp; with_reducible rfl
  rotate_left
  · simp only [Act.put, sa_, sz_, ss_, i64_w, i32_w]; rfl
  refine pure_ (i := 4) (N := some 37) (v := ?_) (a' := ?_) (bl 16 27) rfl rfl (any_of HT_.out (by kernel_rfl)) (fun _ _ _ h => h) (Or.inl ⟨by rfl, ?_⟩) ?_ ?_
  rotate_left
  · intro w'; go_simp; with_reducible rfl
  rotate_left
  · simp only [Act.put, sa_, sz_, ss_, i64_w, i32_w]; rfl
  refine pure_ (i := 6) (N := some 39) (v := ?_) (a' := ?_) (bl 16 91) rfl rfl (any_of HT_.out (by kernel_rfl)) (fun _ _ _ h => h) (Or.inl ⟨by rfl, ?_⟩) ?_ ?_
  rotate_left
  · intro w'; go_simp; with_reducible rfl
  rotate_left
  · simp only [Act.put, sa_, sz_, ss_, i64_w, i32_w]; rfl
  refine pure_ (i := 7) (N := some 40) (v := ?_) (a' := ?_) (bl 16 219) rfl rfl (any_of HT_.out (by kernel_rfl)) (fun _ _ _ h => h) (Or.inl ⟨by rfl, ?_⟩) ?_ ?_
  rotate_left
  · intro w'; go_simp; with_reducible rfl
  rotate_left
  · simp only [Act.put, sa_, sz_, ss_, i64_w, i32_w]; rfl
  refine pure_ (i := 9) (N := some 42) (v := ?_) (a' := ?_) (bl 16 731) rfl rfl (any_of HT_.out (by kernel_rfl)) (fun _ _ _ h => h) (Or.inl ⟨by rfl, ?_⟩) ?_ ?_
  rotate_left
  · intro w'; go_simp; with_reducible rfl
  rotate_left
  · simp only [Act.put, sa_, sz_, ss_, i64_w, i32_w]; rfl
  refine pure_ (i := 10) (N := some 43) (v := ?_) (a' := ?_) (bl 16 1755) rfl rfl (any_of HT_.out (by kernel_rfl)) (fun _ _ _ h => h) (Or.inl ⟨by rfl, ?_⟩) ?_ ?_
  rotate_left
  · intro w'; go_simp; with_reducible rfl
  rotate_left
  · simp only [Act.put, sa_, sz_, ss_, i64_w, i32_w]; rfl
  refine take_ (i := 2) (N := some 35) (v := ?_) (a' := ?_) (bl 16 1759) rfl rfl (take_ofW HT_.out HW_.out (by kernel_rfl)) (fun _ _ _ h => h) (Or.inl ⟨by rfl, ?_⟩) hHeld ?_ ?_
  rotate_left
  · rintro w' ⟨s0, s1, s2, s3⟩
    go_simp
    with_reducible rfl
  rotate_left
  · simp only [Act.put, sa_, sz_, ss_, i64_w, i32_w]; rfl
  refine pure_ (i := 12) (N := some 12) (v := ?_) (a' := ?_) (bl 16 5855) rfl rfl (any_of HT_.out (by kernel_rfl)) (fun _ _ _ h => h) (Or.inl ⟨by rfl, ?_⟩) ?_ ?_
  rotate_left
  · intro w'; go_simp; with_reducible rfl
  rotate_left
  · simp only [Act.put, sa_, sz_, ss_, i64_w, i32_w]; rfl
  refine take_ (i := 5) (N := some 38) (v := ?_) (a' := ?_) (bl 16 5887) rfl rfl (take_ofW HT_.out HW_.out (by kernel_rfl)) (fun _ _ _ h => h) (Or.inl ⟨by rfl, ?_⟩) hHeld ?_ ?_
  rotate_left
  · rintro w' ⟨s0, s1, s2, s3⟩
    go_simp
    with_reducible rfl
  rotate_left
  · simp only [Act.put, sa_, sz_, ss_, i64_w, i32_w]; rfl
  refine pure_ (i := 13) (N := some 13) (v := ?_) (a' := ?_) (bl 16 14079) rfl rfl (any_of HT_.out (by kernel_rfl)) (fun _ _ _ h => h) (Or.inl ⟨by rfl, ?_⟩) ?_ ?_
  rotate_left
  · intro w'; go_simp; with_reducible rfl
  rotate_left
  · simp only [Act.put, sa_, sz_, ss_, i64_w, i32_w]; rfl
  refine take_ (i := 8) (N := some 41) (v := ?_) (a' := ?_) (bl 16 14335) rfl rfl (take_ofW HT_.out HW_.out (by kernel_rfl)) (fun _ _ _ h => h) (Or.inl ⟨by rfl, ?_⟩) hHeld ?_ ?_
  rotate_left
  · rintro w' ⟨s0, s1, s2, s3⟩
    go_simp
    with_reducible rfl
  rotate_left
  · simp only [Act.put, sa_, sz_, ss_, i64_w, i32_w]; rfl
  refine pure_ (i := 14) (N := some 14) (v := ?_) (a' := ?_) (bl 16 30719) rfl rfl (any_of HT_.out (by kernel_rfl)) (fun _ _ _ h => h) (Or.inl ⟨by rfl, ?_⟩) ?_ ?_
  rotate_left
  · intro w'; go_simp; with_reducible rfl
  rotate_left
  · simp only [Act.put, sa_, sz_, ss_, i64_w, i32_w]; rfl
  refine take_ (i := 11) (N := some 44) (v := ?_) (a' := ?_) (bl 16 32767) rfl rfl (take_ofW HT_.out HW_.out (by kernel_rfl)) (fun _ _ _ h => h) (Or.inl ⟨by rfl, ?_⟩) hHeld ?_ ?_
  rotate_left
  · rintro w' ⟨s0, s1, s2, s3⟩
    go_simp
    with_reducible rfl
  rotate_left
  · simp only [Act.put, sa_, sz_, ss_, i64_w, i32_w]; rfl
  refine pure_ (i := 15) (N := some 15) (v := ?_) (a' := ?_) (bl 16 65535) rfl rfl (any_of HT_.out (by kernel_rfl)) (fun _ _ _ h => h) (Or.inl ⟨by rfl, ?_⟩) ?_ ?_
  rotate_left
  · intro w'; go_simp; with_reducible rfl
  rotate_left
  · simp only [Act.put, sa_, sz_, ss_, i64_w, i32_w]; rfl
  refine done_ (done_of HT_.out (by kernel_rfl)) ?_
  try go_wp2
  go_loopg [8, 9, 10, 11, 12, 13, 14, 15, 16] k (fun kq v8 v9 v10 v11 v12 v13 v14 v15 v16 w' => ∃ (x8_1 : Int) (x9_1 : Int) (x10_1 : Int) (x11_1 : Int) (x12_1 : Int) (x13_1 : Int) (x14_1 : Int) (x15_1 : Int) (x16_1 : Int), v8 = .int .u32 x8_1 ∧ v9 = .int .u32 x9_1 ∧ v10 = .int .u32 x10_1 ∧ v11 = .int .u32 x11_1 ∧ v12 = .int .u32 x12_1 ∧ v13 = .int .u32 x13_1 ∧ v14 = .int .u32 x14_1 ∧ v15 = .int .u32 x15_1 ∧ v16 = .int .i64 x16_1 ∧ Aside0 (notaryref03_Block.l0 kq l0 l2 t260 x8_1 x9_1 x10_1 x11_1 x12_1 x13_1 x14_1 x15_1 x16_1 = some r) ∧ Aside0 (kq ≤ k) ∧ Aside0 (Kd.R (Kd.int .u32) 87 w' w.heap.size (fun _ => True) v261 t260) ∧ Aside0 (Below w.heap.size w w'))
  case atStart => exact ⟨(rd l0 0), (rd l0 1), (rd l0 2), (rd l0 3), (rd l0 4), (rd l0 5), (rd l0 6), (rd l0 7), (0), (by (rfl)), (by (rfl)), (by (rfl)), (by (rfl)), (by (rfl)), (by (rfl)), (by (rfl)), (by (rfl)), (by (rfl)), H', ⟨Nat.le_refl _⟩, ⟨by exact HO262.out⟩, ⟨HB.out⟩⟩
  clear H'
  try clear c5b0
  try clear c5b1
  try clear c6b0
  try clear c6b1
  try clear c7b0
  try clear c7b1
  try clear c8b0
  try clear c8b1
  try clear c9b0
  try clear c9b1
  try clear c10b0
  try clear c10b1
  try clear c11b0
  try clear c11b1
  try clear c12b0
  try clear c12b1
  try clear hx263_0
  try clear hx264_0
  try clear hx265_0
  try clear hx266_0
  try clear hx267_0
  try clear hx268_0
  try clear hx269_0
  try clear hx270_0
  try clear p263
  try clear p264
  try clear p265
  try clear p266
  try clear p267
  try clear p268
  try clear p269
  try clear p270
  try clear q263
  try clear q264
  try clear q265
  try clear q266
  try clear q267
  try clear q268
  try clear q269
  try clear q270
  obtain ⟨x8_1, x9_1, x10_1, x11_1, x12_1, x13_1, x14_1, x15_1, x16_1, rfl, rfl, rfl, rfl, rfl, rfl, rfl, rfl, rfl, HA, HK1, HO_7, HB⟩ := hrel
  rcases gk with _ | k1
  · exact absurd HA.out (by simp [notaryref03_Block.l0])
  have H := HA.out
  clear HA
  simp only [notaryref03_Block.l0] at H
  by_cases c16 : x16_1 < 64
  · rw [if_pos c16] at H
    have c16b0 : decide (x16_1 < 64) = true := decide_eq_true c16
    clear c16
    replace H := Option.bind_eq_some_iff.mp H
    obtain ⟨t282, A170, H⟩ := H
    replace H : ((notaryref03_Rot.f x12_1 11).bind fun t283 => ((notaryref03_Rot.f x12_1 25).bind fun t284 => (if 0 ≤ x16_1 then (if x16_1 < (l2.length : Int) then (if x16_1 < (t260.length : Int) then ((notaryref03_Rot.f x8_1 2).bind fun t287 => ((notaryref03_Rot.f x8_1 13).bind fun t288 => ((notaryref03_Rot.f x8_1 22).bind fun t289 => (notaryref03_Block.l0 k1 l0 l2 t260 ((((((((((x15_1 + (Go.bits .xor .u32 (Go.bits .xor .u32 t282 t283) t284)) % 4294967296) + (Go.bits .xor .u32 (Go.bits .and .u32 x12_1 x13_1) (Go.bits .and .u32 (Go.bits .xor .u32 4294967295 x12_1) x14_1))) % 4294967296) + (rd l2 x16_1)) % 4294967296) + (rd t260 x16_1)) % 4294967296) + (((Go.bits .xor .u32 (Go.bits .xor .u32 t287 t288) t289) + (Go.bits .xor .u32 (Go.bits .xor .u32 (Go.bits .and .u32 x8_1 x9_1) (Go.bits .and .u32 x8_1 x10_1)) (Go.bits .and .u32 x9_1 x10_1))) % 4294967296)) % 4294967296) x8_1 x9_1 x10_1 ((x11_1 + ((((((((x15_1 + (Go.bits .xor .u32 (Go.bits .xor .u32 t282 t283) t284)) % 4294967296) + (Go.bits .xor .u32 (Go.bits .and .u32 x12_1 x13_1) (Go.bits .and .u32 (Go.bits .xor .u32 4294967295 x12_1) x14_1))) % 4294967296) + (rd l2 x16_1)) % 4294967296) + (rd t260 x16_1)) % 4294967296)) % 4294967296) x12_1 x13_1 x14_1 (wrap64 (x16_1 + 1)))))) else (none)) else (none)) else (none)))) = some r := H
    have A17 := Aside0.mk A170
    clear A170
    replace H := Option.bind_eq_some_iff.mp H
    obtain ⟨t283, A180, H⟩ := H
    replace H : ((notaryref03_Rot.f x12_1 25).bind fun t284 => (if 0 ≤ x16_1 then (if x16_1 < (l2.length : Int) then (if x16_1 < (t260.length : Int) then ((notaryref03_Rot.f x8_1 2).bind fun t287 => ((notaryref03_Rot.f x8_1 13).bind fun t288 => ((notaryref03_Rot.f x8_1 22).bind fun t289 => (notaryref03_Block.l0 k1 l0 l2 t260 ((((((((((x15_1 + (Go.bits .xor .u32 (Go.bits .xor .u32 t282 t283) t284)) % 4294967296) + (Go.bits .xor .u32 (Go.bits .and .u32 x12_1 x13_1) (Go.bits .and .u32 (Go.bits .xor .u32 4294967295 x12_1) x14_1))) % 4294967296) + (rd l2 x16_1)) % 4294967296) + (rd t260 x16_1)) % 4294967296) + (((Go.bits .xor .u32 (Go.bits .xor .u32 t287 t288) t289) + (Go.bits .xor .u32 (Go.bits .xor .u32 (Go.bits .and .u32 x8_1 x9_1) (Go.bits .and .u32 x8_1 x10_1)) (Go.bits .and .u32 x9_1 x10_1))) % 4294967296)) % 4294967296) x8_1 x9_1 x10_1 ((x11_1 + ((((((((x15_1 + (Go.bits .xor .u32 (Go.bits .xor .u32 t282 t283) t284)) % 4294967296) + (Go.bits .xor .u32 (Go.bits .and .u32 x12_1 x13_1) (Go.bits .and .u32 (Go.bits .xor .u32 4294967295 x12_1) x14_1))) % 4294967296) + (rd l2 x16_1)) % 4294967296) + (rd t260 x16_1)) % 4294967296)) % 4294967296) x12_1 x13_1 x14_1 (wrap64 (x16_1 + 1)))))) else (none)) else (none)) else (none))) = some r := H
    have A18 := Aside0.mk A180
    clear A180
    replace H := Option.bind_eq_some_iff.mp H
    obtain ⟨t284, A190, H⟩ := H
    replace H : (if 0 ≤ x16_1 then (if x16_1 < (l2.length : Int) then (if x16_1 < (t260.length : Int) then ((notaryref03_Rot.f x8_1 2).bind fun t287 => ((notaryref03_Rot.f x8_1 13).bind fun t288 => ((notaryref03_Rot.f x8_1 22).bind fun t289 => (notaryref03_Block.l0 k1 l0 l2 t260 ((((((((((x15_1 + (Go.bits .xor .u32 (Go.bits .xor .u32 t282 t283) t284)) % 4294967296) + (Go.bits .xor .u32 (Go.bits .and .u32 x12_1 x13_1) (Go.bits .and .u32 (Go.bits .xor .u32 4294967295 x12_1) x14_1))) % 4294967296) + (rd l2 x16_1)) % 4294967296) + (rd t260 x16_1)) % 4294967296) + (((Go.bits .xor .u32 (Go.bits .xor .u32 t287 t288) t289) + (Go.bits .xor .u32 (Go.bits .xor .u32 (Go.bits .and .u32 x8_1 x9_1) (Go.bits .and .u32 x8_1 x10_1)) (Go.bits .and .u32 x9_1 x10_1))) % 4294967296)) % 4294967296) x8_1 x9_1 x10_1 ((x11_1 + ((((((((x15_1 + (Go.bits .xor .u32 (Go.bits .xor .u32 t282 t283) t284)) % 4294967296) + (Go.bits .xor .u32 (Go.bits .and .u32 x12_1 x13_1) (Go.bits .and .u32 (Go.bits .xor .u32 4294967295 x12_1) x14_1))) % 4294967296) + (rd l2 x16_1)) % 4294967296) + (rd t260 x16_1)) % 4294967296)) % 4294967296) x12_1 x13_1 x14_1 (wrap64 (x16_1 + 1)))))) else (none)) else (none)) else (none)) = some r := H
    have A19 := Aside0.mk A190
    clear A190
    by_cases c20 : 0 ≤ x16_1
    rotate_left
    · rw [if_neg c20] at H
      exact absurd H (by simp)
    rw [if_pos c20] at H
    have c20b0 : decide (0 ≤ x16_1) = true := decide_eq_true c20
    clear c20
    by_cases c21 : x16_1 < (l2.length : Int)
    rotate_left
    · rw [if_neg c21] at H
      exact absurd H (by simp)
    rw [if_pos c21] at H
    have c21b0 : decide (x16_1 < (l2.length : Int)) = true := decide_eq_true c21
    clear c21
    by_cases c22 : x16_1 < (t260.length : Int)
    rotate_left
    · rw [if_neg c22] at H
      exact absurd H (by simp)
    rw [if_pos c22] at H
    have c22b0 : decide (x16_1 < (t260.length : Int)) = true := decide_eq_true c22
    clear c22
    replace H := Option.bind_eq_some_iff.mp H
    obtain ⟨t287, A230, H⟩ := H
    replace H : ((notaryref03_Rot.f x8_1 13).bind fun t288 => ((notaryref03_Rot.f x8_1 22).bind fun t289 => (notaryref03_Block.l0 k1 l0 l2 t260 ((((((((((x15_1 + (Go.bits .xor .u32 (Go.bits .xor .u32 t282 t283) t284)) % 4294967296) + (Go.bits .xor .u32 (Go.bits .and .u32 x12_1 x13_1) (Go.bits .and .u32 (Go.bits .xor .u32 4294967295 x12_1) x14_1))) % 4294967296) + (rd l2 x16_1)) % 4294967296) + (rd t260 x16_1)) % 4294967296) + (((Go.bits .xor .u32 (Go.bits .xor .u32 t287 t288) t289) + (Go.bits .xor .u32 (Go.bits .xor .u32 (Go.bits .and .u32 x8_1 x9_1) (Go.bits .and .u32 x8_1 x10_1)) (Go.bits .and .u32 x9_1 x10_1))) % 4294967296)) % 4294967296) x8_1 x9_1 x10_1 ((x11_1 + ((((((((x15_1 + (Go.bits .xor .u32 (Go.bits .xor .u32 t282 t283) t284)) % 4294967296) + (Go.bits .xor .u32 (Go.bits .and .u32 x12_1 x13_1) (Go.bits .and .u32 (Go.bits .xor .u32 4294967295 x12_1) x14_1))) % 4294967296) + (rd l2 x16_1)) % 4294967296) + (rd t260 x16_1)) % 4294967296)) % 4294967296) x12_1 x13_1 x14_1 (wrap64 (x16_1 + 1))))) = some r := H
    have A23 := Aside0.mk A230
    clear A230
    replace H := Option.bind_eq_some_iff.mp H
    obtain ⟨t288, A240, H⟩ := H
    replace H : ((notaryref03_Rot.f x8_1 22).bind fun t289 => (notaryref03_Block.l0 k1 l0 l2 t260 ((((((((((x15_1 + (Go.bits .xor .u32 (Go.bits .xor .u32 t282 t283) t284)) % 4294967296) + (Go.bits .xor .u32 (Go.bits .and .u32 x12_1 x13_1) (Go.bits .and .u32 (Go.bits .xor .u32 4294967295 x12_1) x14_1))) % 4294967296) + (rd l2 x16_1)) % 4294967296) + (rd t260 x16_1)) % 4294967296) + (((Go.bits .xor .u32 (Go.bits .xor .u32 t287 t288) t289) + (Go.bits .xor .u32 (Go.bits .xor .u32 (Go.bits .and .u32 x8_1 x9_1) (Go.bits .and .u32 x8_1 x10_1)) (Go.bits .and .u32 x9_1 x10_1))) % 4294967296)) % 4294967296) x8_1 x9_1 x10_1 ((x11_1 + ((((((((x15_1 + (Go.bits .xor .u32 (Go.bits .xor .u32 t282 t283) t284)) % 4294967296) + (Go.bits .xor .u32 (Go.bits .and .u32 x12_1 x13_1) (Go.bits .and .u32 (Go.bits .xor .u32 4294967295 x12_1) x14_1))) % 4294967296) + (rd l2 x16_1)) % 4294967296) + (rd t260 x16_1)) % 4294967296)) % 4294967296) x12_1 x13_1 x14_1 (wrap64 (x16_1 + 1)))) = some r := H
    have A24 := Aside0.mk A240
    clear A240
    replace H := Option.bind_eq_some_iff.mp H
    obtain ⟨t289, A250, H⟩ := H
    replace H : (notaryref03_Block.l0 k1 l0 l2 t260 ((((((((((x15_1 + (Go.bits .xor .u32 (Go.bits .xor .u32 t282 t283) t284)) % 4294967296) + (Go.bits .xor .u32 (Go.bits .and .u32 x12_1 x13_1) (Go.bits .and .u32 (Go.bits .xor .u32 4294967295 x12_1) x14_1))) % 4294967296) + (rd l2 x16_1)) % 4294967296) + (rd t260 x16_1)) % 4294967296) + (((Go.bits .xor .u32 (Go.bits .xor .u32 t287 t288) t289) + (Go.bits .xor .u32 (Go.bits .xor .u32 (Go.bits .and .u32 x8_1 x9_1) (Go.bits .and .u32 x8_1 x10_1)) (Go.bits .and .u32 x9_1 x10_1))) % 4294967296)) % 4294967296) x8_1 x9_1 x10_1 ((x11_1 + ((((((((x15_1 + (Go.bits .xor .u32 (Go.bits .xor .u32 t282 t283) t284)) % 4294967296) + (Go.bits .xor .u32 (Go.bits .and .u32 x12_1 x13_1) (Go.bits .and .u32 (Go.bits .xor .u32 4294967295 x12_1) x14_1))) % 4294967296) + (rd l2 x16_1)) % 4294967296) + (rd t260 x16_1)) % 4294967296)) % 4294967296) x12_1 x13_1 x14_1 (wrap64 (x16_1 + 1))) = some r := H
    have A25 := Aside0.mk A250
    clear A250
    have H' := Aside0.mk H
    clear H
    try go_wp2
    have n0_ := Aside0.mk (Kd.R_drew HO_7.out)
    have n1_ := Aside0.mk (below_drew1 HB.out)
    clear HO_7
    clear HB
    have HO_7 := n0_
    have HB := n1_
    clear n0_ n1_
    have p285 : 0 ≤ (x16_1 : Int) := of_decide_eq_true (by (with_reducible assumption))
    have q285 : x16_1 < (l2.length : Int) := of_decide_eq_true (by (with_reducible assumption))
    obtain ⟨ad285, e285, hx285_0⟩ := Kd.at_int HR2.out x16_1 p285 q285
    have hw285_0 := hx285_0
    cases e285
    replace hx285_0 := pw_cell_below HB.out hx285_0
    replace p285 := eq_true p285
    replace q285 := eq_true q285
    obtain ⟨Ao27, co27, eo27⟩ := Kd.R_slice HO_7.out
    (subst eo27)
    have p286 : 0 ≤ (x16_1 : Int) := of_decide_eq_true (by (with_reducible assumption))
    have q286 : x16_1 < (t260.length : Int) := of_decide_eq_true (by (with_reducible assumption))
    obtain ⟨ad286, e286, hx286_0⟩ := Kd.at_int (Kd.R_reads' HO_7.out).2.2 x16_1 p286 q286
    cases e286
    replace p286 := eq_true p286
    replace q286 := eq_true q286
    refine start_ (n := 30) (S := fun w' => w'.cell? (ad285.add (x16_1).toNat) = some (.int .u32 (rd l2 x16_1)) ∧ w'.cell? (ad286.add (x16_1).toNat) = some (.int .u32 (rd t260 x16_1))) (ds := []) (bl 30 0) (by kernel_rfl) rfl rfl ⟨(pw_cell_below HB.out hw285_0), hx286_0⟩ (fun hHeld => ?_); refine with_tabW notaryref03_Block.tab7 notaryref03_Block.bits7 (fun HT_ HW_ => ?_)
    generalize wr.drew = w26 at HO_7 HB hx285_0 hx286_0 hHeld ⊢
    refine pure_ (i := 0) (N := some 49) (v := ?_) (a' := ?_) (bl 30 1) rfl rfl (any_of HT_.out (by kernel_rfl)) (fun _ _ _ h => h) (Or.inl ⟨by rfl, ?_⟩) ?_ ?_
    rotate_left
    · intro w'; go_simp; with_reducible rfl
    rotate_left
    · simp only [Act.put, sa_, sz_, ss_, i64_w, i32_w]; rfl
    refine pure_ (i := 1) (N := some 50) (v := ?_) (a' := ?_) (bl 30 3) rfl rfl (any_of HT_.out (by kernel_rfl)) (fun _ _ _ h => h) (Or.inl ⟨by rfl, ?_⟩) ?_ ?_
    rotate_left
    · intro w'; go_simp; with_reducible rfl
    rotate_left
    · simp only [Act.put, sa_, sz_, ss_, i64_w, i32_w]; rfl
    refine pure_ (i := 3) (N := some 52) (v := ?_) (a' := ?_) (bl 30 11) rfl rfl (any_of HT_.out (by kernel_rfl)) (fun _ _ _ h => h) (Or.inl ⟨by rfl, ?_⟩) ?_ ?_
    rotate_left
    · intro w'; go_simp; with_reducible rfl
    rotate_left
    · simp only [Act.put, sa_, sz_, ss_, i64_w, i32_w]; rfl
    refine pure_ (i := 6) (N := some 55) (v := ?_) (a' := ?_) (bl 30 75) rfl rfl (any_of HT_.out (by kernel_rfl)) (fun _ _ _ h => h) (Or.inl ⟨by rfl, ?_⟩) ?_ ?_
    rotate_left
    · intro w'; go_simp; with_reducible rfl
    rotate_left
    · simp only [Act.put, sa_, sz_, ss_, i64_w, i32_w]; rfl
    refine pure_ (i := 10) (N := some 59) (v := ?_) (a' := ?_) (bl 30 1099) rfl rfl (any_of HT_.out (by kernel_rfl)) (fun _ _ _ h => h) (Or.inl ⟨by rfl, ?_⟩) ?_ ?_
    rotate_left
    · intro w'; go_simp; with_reducible rfl
    rotate_left
    · simp only [Act.put, sa_, sz_, ss_, i64_w, i32_w]; rfl
    refine pure_ (i := 11) (N := some 60) (v := ?_) (a' := ?_) (bl 30 3147) rfl rfl (any_of HT_.out (by kernel_rfl)) (fun _ _ _ h => h) (Or.inl ⟨by rfl, ?_⟩) ?_ ?_
    rotate_left
    · intro w'; go_simp; with_reducible rfl
    rotate_left
    · simp only [Act.put, sa_, sz_, ss_, i64_w, i32_w]; rfl
    refine pure_ (i := 12) (N := some 61) (v := ?_) (a' := ?_) (bl 30 7243) rfl rfl (any_of HT_.out (by kernel_rfl)) (fun _ _ _ h => h) (Or.inl ⟨by rfl, ?_⟩) ?_ ?_
    rotate_left
    · intro w'; go_simp; with_reducible rfl
    rotate_left
    · simp only [Act.put, sa_, sz_, ss_, i64_w, i32_w]; rfl
    refine pure_ (i := 13) (N := some 62) (v := ?_) (a' := ?_) (bl 30 15435) rfl rfl (any_of HT_.out (by kernel_rfl)) (fun _ _ _ h => h) (Or.inl ⟨by rfl, ?_⟩) ?_ ?_
    rotate_left
    · intro w'; go_simp; with_reducible rfl
    rotate_left
    · simp only [Act.put, sa_, sz_, ss_, i64_w, i32_w]; rfl
    refine pure_ (i := 14) (N := some 63) (v := ?_) (a' := ?_) (bl 30 31819) rfl rfl (any_of HT_.out (by kernel_rfl)) (fun _ _ _ h => h) (Or.inl ⟨by rfl, ?_⟩) ?_ ?_
    rotate_left
    · intro w'; go_simp; with_reducible rfl
    rotate_left
    · simp only [Act.put, sa_, sz_, ss_, i64_w, i32_w]; rfl
    refine pure_ (i := 15) (N := some 64) (v := ?_) (a' := ?_) (bl 30 64587) rfl rfl (any_of HT_.out (by kernel_rfl)) (fun _ _ _ h => h) (Or.inl ⟨by rfl, ?_⟩) ?_ ?_
    rotate_left
    · intro w'; go_simp; with_reducible rfl
    rotate_left
    · simp only [Act.put, sa_, sz_, ss_, i64_w, i32_w]; rfl
    refine pure_ (i := 16) (N := some 65) (v := ?_) (a' := ?_) (bl 30 130123) rfl rfl (any_of HT_.out (by kernel_rfl)) (fun _ _ _ h => h) (Or.inl ⟨by rfl, ?_⟩) ?_ ?_
    rotate_left
    · intro w'; go_simp; with_reducible rfl
    rotate_left
    · simp only [Act.put, sa_, sz_, ss_, i64_w, i32_w]; rfl
    refine pure_ (i := 17) (N := some 66) (v := ?_) (a' := ?_) (bl 30 261195) rfl rfl (any_of HT_.out (by kernel_rfl)) (fun _ _ _ h => h) (Or.inl ⟨by rfl, ?_⟩) ?_ ?_
    rotate_left
    · intro w'; go_simp; with_reducible rfl
    rotate_left
    · simp only [Act.put, sa_, sz_, ss_, i64_w, i32_w]; rfl
    refine pure_ (i := 19) (N := some 68) (v := ?_) (a' := ?_) (bl 30 785483) rfl rfl (any_of HT_.out (by kernel_rfl)) (fun _ _ _ h => h) (Or.inl ⟨by rfl, ?_⟩) ?_ ?_
    rotate_left
    · intro w'; go_simp; with_reducible rfl
    rotate_left
    · simp only [Act.put, sa_, sz_, ss_, i64_w, i32_w]; rfl
    refine pure_ (i := 20) (N := some 69) (v := ?_) (a' := ?_) (bl 30 1834059) rfl rfl (any_of HT_.out (by kernel_rfl)) (fun _ _ _ h => h) (Or.inl ⟨by rfl, ?_⟩) ?_ ?_
    rotate_left
    · intro w'; go_simp; with_reducible rfl
    rotate_left
    · simp only [Act.put, sa_, sz_, ss_, i64_w, i32_w]; rfl
    refine pure_ (i := 21) (N := some 70) (v := ?_) (a' := ?_) (bl 30 3931211) rfl rfl (any_of HT_.out (by kernel_rfl)) (fun _ _ _ h => h) (Or.inl ⟨by rfl, ?_⟩) ?_ ?_
    rotate_left
    · intro w'; go_simp; with_reducible rfl
    rotate_left
    · simp only [Act.put, sa_, sz_, ss_, i64_w, i32_w]; rfl
    refine pure_ (i := 24) (N := some 73) (v := ?_) (a' := ?_) (bl 30 20708427) rfl rfl (any_of HT_.out (by kernel_rfl)) (fun _ _ _ h => h) (Or.inl ⟨by rfl, ?_⟩) ?_ ?_
    rotate_left
    · intro w'; go_simp; with_reducible rfl
    rotate_left
    · simp only [Act.put, sa_, sz_, ss_, i64_w, i32_w]; rfl
    refine pure_ (i := 25) (N := some 74) (v := ?_) (a' := ?_) (bl 30 54262859) rfl rfl (any_of HT_.out (by kernel_rfl)) (fun _ _ _ h => h) (Or.inl ⟨by rfl, ?_⟩) ?_ ?_
    rotate_left
    · intro w'; go_simp; with_reducible rfl
    rotate_left
    · simp only [Act.put, sa_, sz_, ss_, i64_w, i32_w]; rfl
    refine pure_ (i := 26) (N := some 75) (v := ?_) (a' := ?_) (bl 30 121371723) rfl rfl (any_of HT_.out (by kernel_rfl)) (fun _ _ _ h => h) (Or.inl ⟨by rfl, ?_⟩) ?_ ?_
    rotate_left
    · intro w'; go_simp; with_reducible rfl
    rotate_left
    · simp only [Act.put, sa_, sz_, ss_, i64_w, i32_w]; rfl
    refine take_ (i := 22) (N := some 71) (v := ?_) (a' := ?_) (bl 30 125566027) rfl rfl (take_ofW HT_.out HW_.out (by kernel_rfl)) (fun _ _ _ h => h) (Or.inl ⟨by rfl, ?_⟩) hHeld ?_ ?_
    rotate_left
    · rintro w' ⟨s0, s1⟩
      go_simp
      with_reducible rfl
    rotate_left
    · simp only [Act.put, sa_, sz_, ss_, i64_w, i32_w]; rfl
    refine take_ (i := 27) (N := some 76) (v := ?_) (a' := ?_) (bl 30 259783755) rfl rfl (take_ofW HT_.out HW_.out (by kernel_rfl)) (fun _ _ _ h => h) (Or.inl ⟨by rfl, ?_⟩) hHeld ?_ ?_
    rotate_left
    · rintro w' ⟨s0, s1⟩
      go_simp
      with_reducible rfl
    rotate_left
    · simp only [Act.put, sa_, sz_, ss_, i64_w, i32_w]; rfl
    refine one_ (i := 2) (N := some 51) (bl 30 259783759) rfl rfl (one_of HT_.out (by kernel_rfl)) (by decide) (fun K hK => ?_)
    refine goes_ Try.func88 (by kernel_rfl) rfl #[.int .u32 x12_1, .int .u64 6] (by rfl) rfl rfl (by (try simp only [List.map_toArray, List.map_cons, List.map_nil]); (rfl)) ?_
    with_reducible refine (notaryref03_Rot.calls x12_1 6 t282 _ A17.out).mono ?_
    rintro e w' ⟨rfl, ⟨nd, rfl⟩⟩
    refine ⟨_, rfl, ?_⟩
    refine hK.out _ _ ⟨(pw_cell_below HB.out hw285_0), hHeld.2⟩ (fun hHeld => ?_)
    clear hK K
    refine norm_ (a' := ?_) ?_ ?_
    rotate_left
    · show Act.put _ (some 51) _ = _
      simp only [Act.put, sa_, sz_, ss_, i64_w, i32_w]
      rfl
    refine one_ (i := 4) (N := some 53) (bl 30 259783775) rfl rfl (one_of HT_.out (by kernel_rfl)) (by decide) (fun K hK => ?_)
    refine goes_ Try.func88 (by kernel_rfl) rfl #[.int .u32 x12_1, .int .u64 11] (by rfl) rfl rfl (by (try simp only [List.map_toArray, List.map_cons, List.map_nil]); (rfl)) ?_
    with_reducible refine (notaryref03_Rot.calls x12_1 11 t283 _ A18.out).mono ?_
    rintro e w' ⟨rfl, ⟨nd, rfl⟩⟩
    refine ⟨_, rfl, ?_⟩
    refine hK.out _ _ ⟨(pw_cell_below HB.out hw285_0), hHeld.2⟩ (fun hHeld => ?_)
    clear hK K
    refine norm_ (a' := ?_) ?_ ?_
    rotate_left
    · show Act.put _ (some 53) _ = _
      simp only [Act.put, sa_, sz_, ss_, i64_w, i32_w]
      rfl
    refine pure_ (i := 5) (N := some 54) (v := ?_) (a' := ?_) (bl 30 259783807) rfl rfl (any_of HT_.out (by kernel_rfl)) (fun _ _ _ h => h) (Or.inl ⟨by rfl, ?_⟩) ?_ ?_
    rotate_left
    · intro w'; go_simp; with_reducible rfl
    rotate_left
    · simp only [Act.put, sa_, sz_, ss_, i64_w, i32_w]; rfl
    refine one_ (i := 7) (N := some 56) (bl 30 259783935) rfl rfl (one_of HT_.out (by kernel_rfl)) (by decide) (fun K hK => ?_)
    refine goes_ Try.func88 (by kernel_rfl) rfl #[.int .u32 x12_1, .int .u64 25] (by rfl) rfl rfl (by (try simp only [List.map_toArray, List.map_cons, List.map_nil]); (rfl)) ?_
    with_reducible refine (notaryref03_Rot.calls x12_1 25 t284 _ A19.out).mono ?_
    rintro e w' ⟨rfl, ⟨nd, rfl⟩⟩
    refine ⟨_, rfl, ?_⟩
    refine hK.out _ _ ⟨(pw_cell_below HB.out hw285_0), hHeld.2⟩ (fun hHeld => ?_)
    clear hK K
    refine norm_ (a' := ?_) ?_ ?_
    rotate_left
    · show Act.put _ (some 56) _ = _
      simp only [Act.put, sa_, sz_, ss_, i64_w, i32_w]
      rfl
    refine pure_ (i := 8) (N := some 57) (v := ?_) (a' := ?_) (bl 30 259784191) rfl rfl (any_of HT_.out (by kernel_rfl)) (fun _ _ _ h => h) (Or.inl ⟨by rfl, ?_⟩) ?_ ?_
    rotate_left
    · intro w'; go_simp; with_reducible rfl
    rotate_left
    · simp only [Act.put, sa_, sz_, ss_, i64_w, i32_w]; rfl
    refine pure_ (i := 9) (N := some 58) (v := ?_) (a' := ?_) (bl 30 259784703) rfl rfl (any_of HT_.out (by kernel_rfl)) (fun _ _ _ h => h) (Or.inl ⟨by rfl, ?_⟩) ?_ ?_
    rotate_left
    · intro w'; go_simp; with_reducible rfl
    rotate_left
    · simp only [Act.put, sa_, sz_, ss_, i64_w, i32_w]; rfl
    refine pure_ (i := 18) (N := some 67) (v := ?_) (a' := ?_) (bl 30 260046847) rfl rfl (any_of HT_.out (by kernel_rfl)) (fun _ _ _ h => h) (Or.inl ⟨by rfl, ?_⟩) ?_ ?_
    rotate_left
    · intro w'; go_simp; with_reducible rfl
    rotate_left
    · simp only [Act.put, sa_, sz_, ss_, i64_w, i32_w]; rfl
    refine pure_ (i := 23) (N := some 72) (v := ?_) (a' := ?_) (bl 30 268435455) rfl rfl (any_of HT_.out (by kernel_rfl)) (fun _ _ _ h => h) (Or.inl ⟨by rfl, ?_⟩) ?_ ?_
    rotate_left
    · intro w'; go_simp; with_reducible rfl
    rotate_left
    · simp only [Act.put, sa_, sz_, ss_, i64_w, i32_w]; rfl
    refine pure_ (i := 28) (N := some 77) (v := ?_) (a' := ?_) (bl 30 536870911) rfl rfl (any_of HT_.out (by kernel_rfl)) (fun _ _ _ h => h) (Or.inl ⟨by rfl, ?_⟩) ?_ ?_
    rotate_left
    · intro w'; go_simp; with_reducible rfl
    rotate_left
    · simp only [Act.put, sa_, sz_, ss_, i64_w, i32_w]; rfl
    refine pure_ (i := 29) (N := some 17) (v := ?_) (a' := ?_) (bl 30 1073741823) rfl rfl (any_of HT_.out (by kernel_rfl)) (fun _ _ _ h => h) (Or.inl ⟨by rfl, ?_⟩) ?_ ?_
    rotate_left
    · intro w'; go_simp; with_reducible rfl
    rotate_left
    · simp only [Act.put, sa_, sz_, ss_, i64_w, i32_w]; rfl
    refine done_ (done_of HT_.out (by kernel_rfl)) ?_
    try go_wp2_with (first | ((with_reducible refine gate_callee (f := 88) rfl ?_); refine goesL_ (some 79) rfl rfl Try.func88 (by kernel_rfl) rfl #[.int .u32 x8_1, .int .u64 2] rfl (by (try simp only [List.map_toArray, List.map_cons, List.map_nil]); (rfl)) ?_; (with_reducible refine (notaryref03_Rot.calls x8_1 2 t287 _ A23.out).mono ?_); rintro e w' ⟨rfl, ⟨nd, rfl⟩⟩; refine ⟨_, rfl, ?_⟩) | ((with_reducible refine gate_callee (f := 88) rfl ?_); refine goesL_ (some 81) rfl rfl Try.func88 (by kernel_rfl) rfl #[.int .u32 x8_1, .int .u64 13] rfl (by (try simp only [List.map_toArray, List.map_cons, List.map_nil]); (rfl)) ?_; (with_reducible refine (notaryref03_Rot.calls x8_1 13 t288 _ A24.out).mono ?_); rintro e w' ⟨rfl, ⟨nd, rfl⟩⟩; refine ⟨_, rfl, ?_⟩) | ((with_reducible refine gate_callee (f := 88) rfl ?_); refine goesL_ (some 84) rfl rfl Try.func88 (by kernel_rfl) rfl #[.int .u32 x8_1, .int .u64 22] rfl (by (try simp only [List.map_toArray, List.map_cons, List.map_nil]); (rfl)) ?_; (with_reducible refine (notaryref03_Rot.calls x8_1 22 t289 _ A25.out).mono ?_); rintro e w' ⟨rfl, ⟨nd, rfl⟩⟩; refine ⟨_, rfl, ?_⟩))
    go_roundg k1
    case measure => have := HK1.out; omega
    case rel => exact ⟨((((((((((x15_1 + (Go.bits .xor .u32 (Go.bits .xor .u32 t282 t283) t284)) % 4294967296) + (Go.bits .xor .u32 (Go.bits .and .u32 x12_1 x13_1) (Go.bits .and .u32 (Go.bits .xor .u32 4294967295 x12_1) x14_1))) % 4294967296) + (rd l2 x16_1)) % 4294967296) + (rd t260 x16_1)) % 4294967296) + (((Go.bits .xor .u32 (Go.bits .xor .u32 t287 t288) t289) + (Go.bits .xor .u32 (Go.bits .xor .u32 (Go.bits .and .u32 x8_1 x9_1) (Go.bits .and .u32 x8_1 x10_1)) (Go.bits .and .u32 x9_1 x10_1))) % 4294967296)) % 4294967296), (x8_1), (x9_1), (x10_1), ((x11_1 + ((((((((x15_1 + (Go.bits .xor .u32 (Go.bits .xor .u32 t282 t283) t284)) % 4294967296) + (Go.bits .xor .u32 (Go.bits .and .u32 x12_1 x13_1) (Go.bits .and .u32 (Go.bits .xor .u32 4294967295 x12_1) x14_1))) % 4294967296) + (rd l2 x16_1)) % 4294967296) + (rd t260 x16_1)) % 4294967296)) % 4294967296), (x12_1), (x13_1), (x14_1), (wrap64 (x16_1 + 1)), (by (simp; done)), (by (rfl)), (by (rfl)), (by (rfl)), (by (simp; done)), (by (rfl)), (by (rfl)), (by (rfl)), (by (rfl)), H', ⟨by have := HK1.out; omega⟩, ⟨by (with_reducible repeat (apply Kd.R_drewN)); exact HO_7.out⟩, ⟨by repeat (with_reducible first | exact HB.out | apply pw_below_drewN)⟩⟩
  rw [if_neg c16] at H
  have c16b0 : decide (x16_1 < 64) = false := decide_eq_false c16
  clear c16
  by_cases c28 : 0 < (l0.length : Int)
  rotate_left
  · rw [if_neg c28] at H
    exact absurd H (by simp)
  rw [if_pos c28] at H
  have c28b0 : decide (0 < (l0.length : Int)) = true := decide_eq_true c28
  have c28b1 : decide (0 < l0.length) = true := decide_eq_true (by omega)
  clear c28
  by_cases c29 : 1 < (l0.length : Int)
  rotate_left
  · rw [if_neg c29] at H
    exact absurd H (by simp)
  rw [if_pos c29] at H
  have c29b0 : decide (1 < (l0.length : Int)) = true := decide_eq_true c29
  have c29b1 : decide (1 < l0.length) = true := decide_eq_true (by omega)
  clear c29
  by_cases c30 : 2 < (l0.length : Int)
  rotate_left
  · rw [if_neg c30] at H
    exact absurd H (by simp)
  rw [if_pos c30] at H
  have c30b0 : decide (2 < (l0.length : Int)) = true := decide_eq_true c30
  have c30b1 : decide (2 < l0.length) = true := decide_eq_true (by omega)
  clear c30
  by_cases c31 : 3 < (l0.length : Int)
  rotate_left
  · rw [if_neg c31] at H
    exact absurd H (by simp)
  rw [if_pos c31] at H
  have c31b0 : decide (3 < (l0.length : Int)) = true := decide_eq_true c31
  have c31b1 : decide (3 < l0.length) = true := decide_eq_true (by omega)
  clear c31
  by_cases c32 : 4 < (l0.length : Int)
  rotate_left
  · rw [if_neg c32] at H
    exact absurd H (by simp)
  rw [if_pos c32] at H
  have c32b0 : decide (4 < (l0.length : Int)) = true := decide_eq_true c32
  have c32b1 : decide (4 < l0.length) = true := decide_eq_true (by omega)
  clear c32
  by_cases c33 : 5 < (l0.length : Int)
  rotate_left
  · rw [if_neg c33] at H
    exact absurd H (by simp)
  rw [if_pos c33] at H
  have c33b0 : decide (5 < (l0.length : Int)) = true := decide_eq_true c33
  have c33b1 : decide (5 < l0.length) = true := decide_eq_true (by omega)
  clear c33
  by_cases c34 : 6 < (l0.length : Int)
  rotate_left
  · rw [if_neg c34] at H
    exact absurd H (by simp)
  rw [if_pos c34] at H
  have c34b0 : decide (6 < (l0.length : Int)) = true := decide_eq_true c34
  have c34b1 : decide (6 < l0.length) = true := decide_eq_true (by omega)
  clear c34
  by_cases c35 : 7 < (l0.length : Int)
  rotate_left
  · rw [if_neg c35] at H
    exact absurd H (by simp)
  rw [if_pos c35] at H
  have c35b0 : decide (7 < (l0.length : Int)) = true := decide_eq_true c35
  have c35b1 : decide (7 < l0.length) = true := decide_eq_true (by omega)
  clear c35
  obtain ⟨y279, hy279⟩ : ∃ y_ : List Int, y_ = (([((rd l0 0) + x8_1) % 4294967296, ((rd l0 1) + x9_1) % 4294967296, ((rd l0 2) + x10_1) % 4294967296, ((rd l0 3) + x11_1) % 4294967296, ((rd l0 4) + x12_1) % 4294967296, ((rd l0 5) + x13_1) % 4294967296, ((rd l0 6) + x14_1) % 4294967296, ((rd l0 7) + x15_1) % 4294967296] : List Int)) := ⟨_, rfl⟩
  replace H : (some y279) = some r := by (rw [hy279]; with_reducible exact H)
  have Ny279 := Aside0.mk hy279
  clear hy279
  obtain rfl := Option.some.inj H
  try go_wp2
  have n0_ := Aside0.mk (Kd.R_drew HO_7.out)
  have n1_ := Aside0.mk (below_drew1 HB.out)
  clear HO_7
  clear HB
  have HO_7 := n0_
  have HB := n1_
  clear n0_ n1_
  have p271 : 0 ≤ (0 : Int) := (by omega)
  have q271 : 0 < (l0.length : Int) := of_decide_eq_true (by (with_reducible assumption))
  obtain ⟨ad271, e271, hx271_0⟩ := Kd.at_int HR0.out 0 p271 q271
  have hw271_0 := hx271_0
  (try rw [show (0 : Int).toNat = 0 from rfl] at hw271_0)
  (skip)
  (try rw [Addr.add_zero'] at hw271_0)
  obtain rfl : ad263 = ad271 := (by injection e271)
  have qi271 : (0 < l0.length) = True := eq_true (by omega)
  (try rw [show (0 : Int).toNat = 0 from rfl] at hx271_0)
  (try rw [Addr.add_zero'] at hx271_0)
  replace hx271_0 := pw_cell_below HB.out hx271_0
  replace p271 := eq_true p271
  replace q271 := eq_true q271
  have p272 : 0 ≤ (1 : Int) := (by omega)
  have q272 : 1 < (l0.length : Int) := of_decide_eq_true (by (with_reducible assumption))
  obtain ⟨ad272, e272, hx272_0⟩ := Kd.at_int HR0.out 1 p272 q272
  have hw272_0 := hx272_0
  (try rw [show (1 : Int).toNat = 1 from rfl] at hw272_0)
  (skip)
  (try simp only [Nat.reduceMul, Nat.reduceEqDiff, Go.Addr.add, ↓reduceIte] at hw272_0)
  obtain rfl : ad263 = ad272 := (by injection e272)
  (try simp only [show (1 : Int).toNat = 1 from rfl, Nat.reduceMul, Nat.reduceEqDiff, Go.Addr.add, ↓reduceIte] at hx272_0)
  have qi272 : (1 < l0.length) = True := eq_true (by omega)
  (skip)
  replace hx272_0 := pw_cell_below HB.out hx272_0
  replace p272 := eq_true p272
  replace q272 := eq_true q272
  have p273 : 0 ≤ (2 : Int) := (by omega)
  have q273 : 2 < (l0.length : Int) := of_decide_eq_true (by (with_reducible assumption))
  obtain ⟨ad273, e273, hx273_0⟩ := Kd.at_int HR0.out 2 p273 q273
  have hw273_0 := hx273_0
  (try rw [show (2 : Int).toNat = 2 from rfl] at hw273_0)
  (skip)
  (try simp only [Nat.reduceMul, Nat.reduceEqDiff, Go.Addr.add, ↓reduceIte] at hw273_0)
  obtain rfl : ad263 = ad273 := (by injection e273)
  (try simp only [show (2 : Int).toNat = 2 from rfl, Nat.reduceMul, Nat.reduceEqDiff, Go.Addr.add, ↓reduceIte] at hx273_0)
  have qi273 : (2 < l0.length) = True := eq_true (by omega)
  (skip)
  replace hx273_0 := pw_cell_below HB.out hx273_0
  replace p273 := eq_true p273
  replace q273 := eq_true q273
  have p274 : 0 ≤ (3 : Int) := (by omega)
  have q274 : 3 < (l0.length : Int) := of_decide_eq_true (by (with_reducible assumption))
  obtain ⟨ad274, e274, hx274_0⟩ := Kd.at_int HR0.out 3 p274 q274
  have hw274_0 := hx274_0
  (try rw [show (3 : Int).toNat = 3 from rfl] at hw274_0)
  (skip)
  (try simp only [Nat.reduceMul, Nat.reduceEqDiff, Go.Addr.add, ↓reduceIte] at hw274_0)
  obtain rfl : ad263 = ad274 := (by injection e274)
  (try simp only [show (3 : Int).toNat = 3 from rfl, Nat.reduceMul, Nat.reduceEqDiff, Go.Addr.add, ↓reduceIte] at hx274_0)
  have qi274 : (3 < l0.length) = True := eq_true (by omega)
  (skip)
  replace hx274_0 := pw_cell_below HB.out hx274_0
  replace p274 := eq_true p274
  replace q274 := eq_true q274
  have p275 : 0 ≤ (4 : Int) := (by omega)
  have q275 : 4 < (l0.length : Int) := of_decide_eq_true (by (with_reducible assumption))
  obtain ⟨ad275, e275, hx275_0⟩ := Kd.at_int HR0.out 4 p275 q275
  have hw275_0 := hx275_0
  (try rw [show (4 : Int).toNat = 4 from rfl] at hw275_0)
  (skip)
  (try simp only [Nat.reduceMul, Nat.reduceEqDiff, Go.Addr.add, ↓reduceIte] at hw275_0)
  obtain rfl : ad263 = ad275 := (by injection e275)
  (try simp only [show (4 : Int).toNat = 4 from rfl, Nat.reduceMul, Nat.reduceEqDiff, Go.Addr.add, ↓reduceIte] at hx275_0)
  have qi275 : (4 < l0.length) = True := eq_true (by omega)
  (skip)
  replace hx275_0 := pw_cell_below HB.out hx275_0
  replace p275 := eq_true p275
  replace q275 := eq_true q275
  have p276 : 0 ≤ (5 : Int) := (by omega)
  have q276 : 5 < (l0.length : Int) := of_decide_eq_true (by (with_reducible assumption))
  obtain ⟨ad276, e276, hx276_0⟩ := Kd.at_int HR0.out 5 p276 q276
  have hw276_0 := hx276_0
  (try rw [show (5 : Int).toNat = 5 from rfl] at hw276_0)
  (skip)
  (try simp only [Nat.reduceMul, Nat.reduceEqDiff, Go.Addr.add, ↓reduceIte] at hw276_0)
  obtain rfl : ad263 = ad276 := (by injection e276)
  (try simp only [show (5 : Int).toNat = 5 from rfl, Nat.reduceMul, Nat.reduceEqDiff, Go.Addr.add, ↓reduceIte] at hx276_0)
  have qi276 : (5 < l0.length) = True := eq_true (by omega)
  (skip)
  replace hx276_0 := pw_cell_below HB.out hx276_0
  replace p276 := eq_true p276
  replace q276 := eq_true q276
  have p277 : 0 ≤ (6 : Int) := (by omega)
  have q277 : 6 < (l0.length : Int) := of_decide_eq_true (by (with_reducible assumption))
  obtain ⟨ad277, e277, hx277_0⟩ := Kd.at_int HR0.out 6 p277 q277
  have hw277_0 := hx277_0
  (try rw [show (6 : Int).toNat = 6 from rfl] at hw277_0)
  (skip)
  (try simp only [Nat.reduceMul, Nat.reduceEqDiff, Go.Addr.add, ↓reduceIte] at hw277_0)
  obtain rfl : ad263 = ad277 := (by injection e277)
  (try simp only [show (6 : Int).toNat = 6 from rfl, Nat.reduceMul, Nat.reduceEqDiff, Go.Addr.add, ↓reduceIte] at hx277_0)
  have qi277 : (6 < l0.length) = True := eq_true (by omega)
  (skip)
  replace hx277_0 := pw_cell_below HB.out hx277_0
  replace p277 := eq_true p277
  replace q277 := eq_true q277
  have p278 : 0 ≤ (7 : Int) := (by omega)
  have q278 : 7 < (l0.length : Int) := of_decide_eq_true (by (with_reducible assumption))
  obtain ⟨ad278, e278, hx278_0⟩ := Kd.at_int HR0.out 7 p278 q278
  have hw278_0 := hx278_0
  (try rw [show (7 : Int).toNat = 7 from rfl] at hw278_0)
  (skip)
  (try simp only [Nat.reduceMul, Nat.reduceEqDiff, Go.Addr.add, ↓reduceIte] at hw278_0)
  obtain rfl : ad263 = ad278 := (by injection e278)
  (try simp only [show (7 : Int).toNat = 7 from rfl, Nat.reduceMul, Nat.reduceEqDiff, Go.Addr.add, ↓reduceIte] at hx278_0)
  have qi278 : (7 < l0.length) = True := eq_true (by omega)
  (skip)
  replace hx278_0 := pw_cell_below HB.out hx278_0
  replace p278 := eq_true p278
  replace q278 := eq_true q278
  refine start_ (n := 42) (S := fun w' => w'.cell? ad263 = some (.int .u32 (rd l0 0)) ∧ w'.cell? ⟨ad263.block, ad263.off + 1, none⟩ = some (.int .u32 (rd l0 1)) ∧ w'.cell? ⟨ad263.block, ad263.off + 2, none⟩ = some (.int .u32 (rd l0 2)) ∧ w'.cell? ⟨ad263.block, ad263.off + 3, none⟩ = some (.int .u32 (rd l0 3)) ∧ w'.cell? ⟨ad263.block, ad263.off + 4, none⟩ = some (.int .u32 (rd l0 4)) ∧ w'.cell? ⟨ad263.block, ad263.off + 5, none⟩ = some (.int .u32 (rd l0 5)) ∧ w'.cell? ⟨ad263.block, ad263.off + 6, none⟩ = some (.int .u32 (rd l0 6)) ∧ w'.cell? ⟨ad263.block, ad263.off + 7, none⟩ = some (.int .u32 (rd l0 7))) (ds := []) (bl 42 0) (by kernel_rfl) rfl rfl ⟨(pw_cell_below HB.out hw271_0), (pw_cell_below HB.out hw272_0), (pw_cell_below HB.out hw273_0), (pw_cell_below HB.out hw274_0), (pw_cell_below HB.out hw275_0), (pw_cell_below HB.out hw276_0), (pw_cell_below HB.out hw277_0), (pw_cell_below HB.out hw278_0)⟩ (fun hHeld => ?_); refine with_tabW notaryref03_Block.tab17 notaryref03_Block.bits17 (fun HT_ HW_ => ?_)
  generalize wr.drew = w36 at HO_7 HB hx271_0 hx272_0 hx273_0 hx274_0 hx275_0 hx276_0 hx277_0 hx278_0 hHeld ⊢
  refine pure_ (i := 0) (N := some 110) (v := ?_) (a' := ?_) (bl 42 1) rfl rfl (any_of HT_.out (by kernel_rfl)) (fun _ _ _ h => h) (Or.inl ⟨by rfl, ?_⟩) ?_ ?_
  rotate_left
  · intro w'; go_simp; with_reducible rfl
  rotate_left
  · simp only [Act.put, sa_, sz_, ss_, i64_w, i32_w]; rfl
  refine pure_ (i := 1) (N := some 111) (v := ?_) (a' := ?_) (bl 42 3) rfl rfl (any_of HT_.out (by kernel_rfl)) (fun _ _ _ h => h) (Or.inl ⟨by rfl, ?_⟩) ?_ ?_
  rotate_left
  · intro w'; go_simp; with_reducible rfl
  rotate_left
  · simp only [Act.put, sa_, sz_, ss_, i64_w, i32_w]; rfl
  refine pure_ (i := 3) (N := some 113) (v := ?_) (a' := ?_) (bl 42 11) rfl rfl (any_of HT_.out (by kernel_rfl)) (fun _ _ _ h => h) (Or.inl ⟨by rfl, ?_⟩) ?_ ?_
  rotate_left
  · intro w'; go_simp; with_reducible rfl
  rotate_left
  · simp only [Act.put, sa_, sz_, ss_, i64_w, i32_w]; rfl
  refine pure_ (i := 5) (N := some 115) (v := ?_) (a' := ?_) (bl 42 43) rfl rfl (any_of HT_.out (by kernel_rfl)) (fun _ _ _ h => h) (Or.inl ⟨by rfl, ?_⟩) ?_ ?_
  rotate_left
  · intro w'; go_simp; with_reducible rfl
  rotate_left
  · simp only [Act.put, sa_, sz_, ss_, i64_w, i32_w]; rfl
  refine pure_ (i := 6) (N := some 116) (v := ?_) (a' := ?_) (bl 42 107) rfl rfl (any_of HT_.out (by kernel_rfl)) (fun _ _ _ h => h) (Or.inl ⟨by rfl, ?_⟩) ?_ ?_
  rotate_left
  · intro w'; go_simp; with_reducible rfl
  rotate_left
  · simp only [Act.put, sa_, sz_, ss_, i64_w, i32_w]; rfl
  refine pure_ (i := 8) (N := some 118) (v := ?_) (a' := ?_) (bl 42 363) rfl rfl (any_of HT_.out (by kernel_rfl)) (fun _ _ _ h => h) (Or.inl ⟨by rfl, ?_⟩) ?_ ?_
  rotate_left
  · intro w'; go_simp; with_reducible rfl
  rotate_left
  · simp only [Act.put, sa_, sz_, ss_, i64_w, i32_w]; rfl
  refine pure_ (i := 10) (N := some 120) (v := ?_) (a' := ?_) (bl 42 1387) rfl rfl (any_of HT_.out (by kernel_rfl)) (fun _ _ _ h => h) (Or.inl ⟨by rfl, ?_⟩) ?_ ?_
  rotate_left
  · intro w'; go_simp; with_reducible rfl
  rotate_left
  · simp only [Act.put, sa_, sz_, ss_, i64_w, i32_w]; rfl
  refine pure_ (i := 11) (N := some 121) (v := ?_) (a' := ?_) (bl 42 3435) rfl rfl (any_of HT_.out (by kernel_rfl)) (fun _ _ _ h => h) (Or.inl ⟨by rfl, ?_⟩) ?_ ?_
  rotate_left
  · intro w'; go_simp; with_reducible rfl
  rotate_left
  · simp only [Act.put, sa_, sz_, ss_, i64_w, i32_w]; rfl
  refine pure_ (i := 13) (N := some 123) (v := ?_) (a' := ?_) (bl 42 11627) rfl rfl (any_of HT_.out (by kernel_rfl)) (fun _ _ _ h => h) (Or.inl ⟨by rfl, ?_⟩) ?_ ?_
  rotate_left
  · intro w'; go_simp; with_reducible rfl
  rotate_left
  · simp only [Act.put, sa_, sz_, ss_, i64_w, i32_w]; rfl
  refine pure_ (i := 15) (N := some 125) (v := ?_) (a' := ?_) (bl 42 44395) rfl rfl (any_of HT_.out (by kernel_rfl)) (fun _ _ _ h => h) (Or.inl ⟨by rfl, ?_⟩) ?_ ?_
  rotate_left
  · intro w'; go_simp; with_reducible rfl
  rotate_left
  · simp only [Act.put, sa_, sz_, ss_, i64_w, i32_w]; rfl
  refine pure_ (i := 16) (N := some 126) (v := ?_) (a' := ?_) (bl 42 109931) rfl rfl (any_of HT_.out (by kernel_rfl)) (fun _ _ _ h => h) (Or.inl ⟨by rfl, ?_⟩) ?_ ?_
  rotate_left
  · intro w'; go_simp; with_reducible rfl
  rotate_left
  · simp only [Act.put, sa_, sz_, ss_, i64_w, i32_w]; rfl
  refine pure_ (i := 18) (N := some 128) (v := ?_) (a' := ?_) (bl 42 372075) rfl rfl (any_of HT_.out (by kernel_rfl)) (fun _ _ _ h => h) (Or.inl ⟨by rfl, ?_⟩) ?_ ?_
  rotate_left
  · intro w'; go_simp; with_reducible rfl
  rotate_left
  · simp only [Act.put, sa_, sz_, ss_, i64_w, i32_w]; rfl
  refine pure_ (i := 20) (N := some 130) (v := ?_) (a' := ?_) (bl 42 1420651) rfl rfl (any_of HT_.out (by kernel_rfl)) (fun _ _ _ h => h) (Or.inl ⟨by rfl, ?_⟩) ?_ ?_
  rotate_left
  · intro w'; go_simp; with_reducible rfl
  rotate_left
  · simp only [Act.put, sa_, sz_, ss_, i64_w, i32_w]; rfl
  refine pure_ (i := 21) (N := some 131) (v := ?_) (a' := ?_) (bl 42 3517803) rfl rfl (any_of HT_.out (by kernel_rfl)) (fun _ _ _ h => h) (Or.inl ⟨by rfl, ?_⟩) ?_ ?_
  rotate_left
  · intro w'; go_simp; with_reducible rfl
  rotate_left
  · simp only [Act.put, sa_, sz_, ss_, i64_w, i32_w]; rfl
  refine pure_ (i := 23) (N := some 133) (v := ?_) (a' := ?_) (bl 42 11906411) rfl rfl (any_of HT_.out (by kernel_rfl)) (fun _ _ _ h => h) (Or.inl ⟨by rfl, ?_⟩) ?_ ?_
  rotate_left
  · intro w'; go_simp; with_reducible rfl
  rotate_left
  · simp only [Act.put, sa_, sz_, ss_, i64_w, i32_w]; rfl
  refine pure_ (i := 25) (N := some 135) (v := ?_) (a' := ?_) (bl 42 45460843) rfl rfl (any_of HT_.out (by kernel_rfl)) (fun _ _ _ h => h) (Or.inl ⟨by rfl, ?_⟩) ?_ ?_
  rotate_left
  · intro w'; go_simp; with_reducible rfl
  rotate_left
  · simp only [Act.put, sa_, sz_, ss_, i64_w, i32_w]; rfl
  refine pure_ (i := 26) (N := some 136) (v := ?_) (a' := ?_) (bl 42 112569707) rfl rfl (any_of HT_.out (by kernel_rfl)) (fun _ _ _ h => h) (Or.inl ⟨by rfl, ?_⟩) ?_ ?_
  rotate_left
  · intro w'; go_simp; with_reducible rfl
  rotate_left
  · simp only [Act.put, sa_, sz_, ss_, i64_w, i32_w]; rfl
  refine pure_ (i := 28) (N := some 138) (v := ?_) (a' := ?_) (bl 42 381005163) rfl rfl (any_of HT_.out (by kernel_rfl)) (fun _ _ _ h => h) (Or.inl ⟨by rfl, ?_⟩) ?_ ?_
  rotate_left
  · intro w'; go_simp; with_reducible rfl
  rotate_left
  · simp only [Act.put, sa_, sz_, ss_, i64_w, i32_w]; rfl
  refine pure_ (i := 30) (N := some 140) (v := ?_) (a' := ?_) (bl 42 1454746987) rfl rfl (any_of HT_.out (by kernel_rfl)) (fun _ _ _ h => h) (Or.inl ⟨by rfl, ?_⟩) ?_ ?_
  rotate_left
  · intro w'; go_simp; with_reducible rfl
  rotate_left
  · simp only [Act.put, sa_, sz_, ss_, i64_w, i32_w]; rfl
  refine pure_ (i := 31) (N := some 141) (v := ?_) (a' := ?_) (bl 42 3602230635) rfl rfl (any_of HT_.out (by kernel_rfl)) (fun _ _ _ h => h) (Or.inl ⟨by rfl, ?_⟩) ?_ ?_
  rotate_left
  · intro w'; go_simp; with_reducible rfl
  rotate_left
  · simp only [Act.put, sa_, sz_, ss_, i64_w, i32_w]; rfl
  refine pure_ (i := 33) (N := some 143) (v := ?_) (a' := ?_) (bl 42 12192165227) rfl rfl (any_of HT_.out (by kernel_rfl)) (fun _ _ _ h => h) (Or.inl ⟨by rfl, ?_⟩) ?_ ?_
  rotate_left
  · intro w'; go_simp; with_reducible rfl
  rotate_left
  · simp only [Act.put, sa_, sz_, ss_, i64_w, i32_w]; rfl
  refine pure_ (i := 35) (N := some 145) (v := ?_) (a' := ?_) (bl 42 46551903595) rfl rfl (any_of HT_.out (by kernel_rfl)) (fun _ _ _ h => h) (Or.inl ⟨by rfl, ?_⟩) ?_ ?_
  rotate_left
  · intro w'; go_simp; with_reducible rfl
  rotate_left
  · simp only [Act.put, sa_, sz_, ss_, i64_w, i32_w]; rfl
  refine pure_ (i := 36) (N := some 146) (v := ?_) (a' := ?_) (bl 42 115271380331) rfl rfl (any_of HT_.out (by kernel_rfl)) (fun _ _ _ h => h) (Or.inl ⟨by rfl, ?_⟩) ?_ ?_
  rotate_left
  · intro w'; go_simp; with_reducible rfl
  rotate_left
  · simp only [Act.put, sa_, sz_, ss_, i64_w, i32_w]; rfl
  refine pure_ (i := 38) (N := some 148) (v := ?_) (a' := ?_) (bl 42 390149287275) rfl rfl (any_of HT_.out (by kernel_rfl)) (fun _ _ _ h => h) (Or.inl ⟨by rfl, ?_⟩) ?_ ?_
  rotate_left
  · intro w'; go_simp; with_reducible rfl
  rotate_left
  · simp only [Act.put, sa_, sz_, ss_, i64_w, i32_w]; rfl
  refine take_ (i := 2) (N := some 112) (v := ?_) (a' := ?_) (bl 42 390149287279) rfl rfl (take_ofW HT_.out HW_.out (by kernel_rfl)) (fun _ _ _ h => h) (Or.inl ⟨by rfl, ?_⟩) hHeld ?_ ?_
  rotate_left
  · rintro w' ⟨s0, s1, s2, s3, s4, s5, s6, s7⟩
    go_simp
    with_reducible rfl
  rotate_left
  · simp only [Act.put, sa_, sz_, ss_, i64_w, i32_w]; rfl
  refine pure_ (i := 4) (N := some 114) (v := ?_) (a' := ?_) (bl 42 390149287295) rfl rfl (any_of HT_.out (by kernel_rfl)) (fun _ _ _ h => h) (Or.inl ⟨by rfl, ?_⟩) ?_ ?_
  rotate_left
  · intro w'; go_simp; with_reducible rfl
  rotate_left
  · simp only [Act.put, sa_, sz_, ss_, i64_w, i32_w]; rfl
  refine take_ (i := 7) (N := some 117) (v := ?_) (a' := ?_) (bl 42 390149287423) rfl rfl (take_ofW HT_.out HW_.out (by kernel_rfl)) (fun _ _ _ h => h) (Or.inl ⟨by rfl, ?_⟩) hHeld ?_ ?_
  rotate_left
  · rintro w' ⟨s0, s1, s2, s3, s4, s5, s6, s7⟩
    go_simp
    with_reducible rfl
  rotate_left
  · simp only [Act.put, sa_, sz_, ss_, i64_w, i32_w]; rfl
  refine pure_ (i := 9) (N := some 119) (v := ?_) (a' := ?_) (bl 42 390149287935) rfl rfl (any_of HT_.out (by kernel_rfl)) (fun _ _ _ h => h) (Or.inl ⟨by rfl, ?_⟩) ?_ ?_
  rotate_left
  · intro w'; go_simp; with_reducible rfl
  rotate_left
  · simp only [Act.put, sa_, sz_, ss_, i64_w, i32_w]; rfl
  refine take_ (i := 12) (N := some 122) (v := ?_) (a' := ?_) (bl 42 390149292031) rfl rfl (take_ofW HT_.out HW_.out (by kernel_rfl)) (fun _ _ _ h => h) (Or.inl ⟨by rfl, ?_⟩) hHeld ?_ ?_
  rotate_left
  · rintro w' ⟨s0, s1, s2, s3, s4, s5, s6, s7⟩
    go_simp
    with_reducible rfl
  rotate_left
  · simp only [Act.put, sa_, sz_, ss_, i64_w, i32_w]; rfl
  refine pure_ (i := 14) (N := some 124) (v := ?_) (a' := ?_) (bl 42 390149308415) rfl rfl (any_of HT_.out (by kernel_rfl)) (fun _ _ _ h => h) (Or.inl ⟨by rfl, ?_⟩) ?_ ?_
  rotate_left
  · intro w'; go_simp; with_reducible rfl
  rotate_left
  · simp only [Act.put, sa_, sz_, ss_, i64_w, i32_w]; rfl
  refine take_ (i := 17) (N := some 127) (v := ?_) (a' := ?_) (bl 42 390149439487) rfl rfl (take_ofW HT_.out HW_.out (by kernel_rfl)) (fun _ _ _ h => h) (Or.inl ⟨by rfl, ?_⟩) hHeld ?_ ?_
  rotate_left
  · rintro w' ⟨s0, s1, s2, s3, s4, s5, s6, s7⟩
    go_simp
    with_reducible rfl
  rotate_left
  · simp only [Act.put, sa_, sz_, ss_, i64_w, i32_w]; rfl
  refine pure_ (i := 19) (N := some 129) (v := ?_) (a' := ?_) (bl 42 390149963775) rfl rfl (any_of HT_.out (by kernel_rfl)) (fun _ _ _ h => h) (Or.inl ⟨by rfl, ?_⟩) ?_ ?_
  rotate_left
  · intro w'; go_simp; with_reducible rfl
  rotate_left
  · simp only [Act.put, sa_, sz_, ss_, i64_w, i32_w]; rfl
  refine take_ (i := 22) (N := some 132) (v := ?_) (a' := ?_) (bl 42 390154158079) rfl rfl (take_ofW HT_.out HW_.out (by kernel_rfl)) (fun _ _ _ h => h) (Or.inl ⟨by rfl, ?_⟩) hHeld ?_ ?_
  rotate_left
  · rintro w' ⟨s0, s1, s2, s3, s4, s5, s6, s7⟩
    go_simp
    with_reducible rfl
  rotate_left
  · simp only [Act.put, sa_, sz_, ss_, i64_w, i32_w]; rfl
  refine pure_ (i := 24) (N := some 134) (v := ?_) (a' := ?_) (bl 42 390170935295) rfl rfl (any_of HT_.out (by kernel_rfl)) (fun _ _ _ h => h) (Or.inl ⟨by rfl, ?_⟩) ?_ ?_
  rotate_left
  · intro w'; go_simp; with_reducible rfl
  rotate_left
  · simp only [Act.put, sa_, sz_, ss_, i64_w, i32_w]; rfl
  refine take_ (i := 27) (N := some 137) (v := ?_) (a' := ?_) (bl 42 390305153023) rfl rfl (take_ofW HT_.out HW_.out (by kernel_rfl)) (fun _ _ _ h => h) (Or.inl ⟨by rfl, ?_⟩) hHeld ?_ ?_
  rotate_left
  · rintro w' ⟨s0, s1, s2, s3, s4, s5, s6, s7⟩
    go_simp
    with_reducible rfl
  rotate_left
  · simp only [Act.put, sa_, sz_, ss_, i64_w, i32_w]; rfl
  refine pure_ (i := 29) (N := some 139) (v := ?_) (a' := ?_) (bl 42 390842023935) rfl rfl (any_of HT_.out (by kernel_rfl)) (fun _ _ _ h => h) (Or.inl ⟨by rfl, ?_⟩) ?_ ?_
  rotate_left
  · intro w'; go_simp; with_reducible rfl
  rotate_left
  · simp only [Act.put, sa_, sz_, ss_, i64_w, i32_w]; rfl
  refine take_ (i := 32) (N := some 142) (v := ?_) (a' := ?_) (bl 42 395136991231) rfl rfl (take_ofW HT_.out HW_.out (by kernel_rfl)) (fun _ _ _ h => h) (Or.inl ⟨by rfl, ?_⟩) hHeld ?_ ?_
  rotate_left
  · rintro w' ⟨s0, s1, s2, s3, s4, s5, s6, s7⟩
    go_simp
    with_reducible rfl
  rotate_left
  · simp only [Act.put, sa_, sz_, ss_, i64_w, i32_w]; rfl
  refine pure_ (i := 34) (N := some 144) (v := ?_) (a' := ?_) (bl 42 412316860415) rfl rfl (any_of HT_.out (by kernel_rfl)) (fun _ _ _ h => h) (Or.inl ⟨by rfl, ?_⟩) ?_ ?_
  rotate_left
  · intro w'; go_simp; with_reducible rfl
  rotate_left
  · simp only [Act.put, sa_, sz_, ss_, i64_w, i32_w]; rfl
  refine take_ (i := 37) (N := some 147) (v := ?_) (a' := ?_) (bl 42 549755813887) rfl rfl (take_ofW HT_.out HW_.out (by kernel_rfl)) (fun _ _ _ h => h) (Or.inl ⟨by rfl, ?_⟩) hHeld ?_ ?_
  rotate_left
  · rintro w' ⟨s0, s1, s2, s3, s4, s5, s6, s7⟩
    go_simp
    with_reducible rfl
  rotate_left
  · simp only [Act.put, sa_, sz_, ss_, i64_w, i32_w]; rfl
  refine pure_ (i := 39) (N := some 149) (v := ?_) (a' := ?_) (bl 42 1099511627775) rfl rfl (any_of HT_.out (by kernel_rfl)) (fun _ _ _ h => h) (Or.inl ⟨by rfl, ?_⟩) ?_ ?_
  rotate_left
  · intro w'; go_simp; with_reducible rfl
  rotate_left
  · simp only [Act.put, sa_, sz_, ss_, i64_w, i32_w]; rfl
  refine one_ (i := 40) (N := some 150) (bl 42 2199023255551) rfl rfl (one_of HT_.out (by kernel_rfl)) (by decide) (fun K hK => ?_)
  refine Kd.R_lit_step (Kd.int .u32) _ 87 ?hg (N := 150) ?hd (xs := ([((rd l0 0) + x8_1) % 4294967296, ((rd l0 1) + x9_1) % 4294967296, ((rd l0 2) + x10_1) % 4294967296, ((rd l0 3) + x11_1) % 4294967296, ((rd l0 4) + x12_1) % 4294967296, ((rd l0 5) + x13_1) % 4294967296, ((rd l0 6) + x14_1) % 4294967296, ((rd l0 7) + x15_1) % 4294967296] : List Int)) (inner := [.int .u32 (((rd l0 0) + x8_1) % 4294967296), .int .u32 (((rd l0 1) + x9_1) % 4294967296), .int .u32 (((rd l0 2) + x10_1) % 4294967296), .int .u32 (((rd l0 3) + x11_1) % 4294967296), .int .u32 (((rd l0 4) + x12_1) % 4294967296), .int .u32 (((rd l0 5) + x13_1) % 4294967296), .int .u32 (((rd l0 6) + x14_1) % 4294967296), .int .u32 (((rd l0 7) + x15_1) % 4294967296)]) (ok := fun _ => True) (okp := fun _ => True) ?hr ?hp (fun _ hk => hk) trivial (Below.refl _ _) (Nat.le_refl _) (by simp) ?_; (case hd => rfl); (case hg => rfl); (case hr => (go_simp; rfl)); (case hp => exact (Reps.one (show Kd.M (Kd.int .u32) _ _ _ (((rd l0 0) + x8_1) % 4294967296) [.int .u32 (((rd l0 0) + x8_1) % 4294967296)] from rfl) (Reps.one (show Kd.M (Kd.int .u32) _ _ _ (((rd l0 1) + x9_1) % 4294967296) [.int .u32 (((rd l0 1) + x9_1) % 4294967296)] from rfl) (Reps.one (show Kd.M (Kd.int .u32) _ _ _ (((rd l0 2) + x10_1) % 4294967296) [.int .u32 (((rd l0 2) + x10_1) % 4294967296)] from rfl) (Reps.one (show Kd.M (Kd.int .u32) _ _ _ (((rd l0 3) + x11_1) % 4294967296) [.int .u32 (((rd l0 3) + x11_1) % 4294967296)] from rfl) (Reps.one (show Kd.M (Kd.int .u32) _ _ _ (((rd l0 4) + x12_1) % 4294967296) [.int .u32 (((rd l0 4) + x12_1) % 4294967296)] from rfl) (Reps.one (show Kd.M (Kd.int .u32) _ _ _ (((rd l0 5) + x13_1) % 4294967296) [.int .u32 (((rd l0 5) + x13_1) % 4294967296)] from rfl) (Reps.one (show Kd.M (Kd.int .u32) _ _ _ (((rd l0 6) + x14_1) % 4294967296) [.int .u32 (((rd l0 6) + x14_1) % 4294967296)] from rfl) (Reps.one (show Kd.M (Kd.int .u32) _ _ _ (((rd l0 7) + x15_1) % 4294967296) [.int .u32 (((rd l0 7) + x15_1) % 4294967296)] from rfl) (Reps.none _ _))))))))))
  intro v280 w37 ho38 hb hg_ hnew_
  clear hg_ hnew_
  (rw [← Ny279.out] at ho38)
  have n0_ := Aside0.mk (Kd.R_elder' (by exact HO_7.out) (Kd.R_base ho38) hb)
  have n1_ := Aside0.mk (Kd.R_lower (Kd.R_new' ho38 (Kd.R_lt (by exact HO_7.out))) (below_size HB.out))
  have n2_ := Aside0.mk (below_step HB.out hb)
  clear HO_7
  clear HB
  have HO_7 := n0_
  have HO281 := n1_
  have HB := n2_
  clear n0_ n1_ n2_
  clear hb ho38
  refine hK.out _ _ ⟨(pw_cell_below HB.out hw271_0), (pw_cell_below HB.out hw272_0), (pw_cell_below HB.out hw273_0), (pw_cell_below HB.out hw274_0), (pw_cell_below HB.out hw275_0), (pw_cell_below HB.out hw276_0), (pw_cell_below HB.out hw277_0), (pw_cell_below HB.out hw278_0)⟩ (fun hHeld => ?_)
  clear hK K
  refine norm_ (a' := ?_) ?_ ?_
  rotate_left
  · show Act.put _ (some 150) _ = _
    simp only [Act.put, sa_, sz_, ss_, i64_w, i32_w]
    rfl
  refine pure_ (i := 41) (N := some 6) (v := ?_) (a' := ?_) (bl 42 4398046511103) rfl rfl (any_of HT_.out (by kernel_rfl)) (fun _ _ _ h => h) (Or.inl ⟨by rfl, ?_⟩) ?_ ?_
  rotate_left
  · intro w'; go_simp; with_reducible rfl
  rotate_left
  · simp only [Act.put, sa_, sz_, ss_, i64_w, i32_w]; rfl
  refine done_ (done_of HT_.out (by kernel_rfl)) ?_
  try go_wp2
  go_ret
  exact ⟨_, by (rfl), by exact Kd.R_mono HO281.out (fun _ hk => trivial), HB.out⟩
end Go.Proofs.Ytogjnipojakfjaa.PJd
