-- SLIM: a printed text of which the unused ways are cut off
-- PRINTED by print.py (a twelfth state) out of the translation. Not trusted: Lean checks it.
import Derived.Test.YtiamcmjdoobaeaaPCdx0
import Derived.Test.YtiamcmjdoobaeaaPCdx8
import Derived.Test.YtiamcmjdoobaeaaPCdx11
namespace Go.Proofs.Ytiamcmjdoobaeaa.PCd
open Go.RowKit Go.Proofs.YtiamcmjdoobaeaaW.PrintWords Go.Proofs.YtiamcmjdoobaeaaW.PrintLast Go.Proofs.YtiamcmjdoobaeaaW.PrintMore
attribute [local go_sem] max2_int min2_int max_two min_two max_three min_three max_four min_four   -- for this text's walks alone
set_option linter.unusedVariables false
set_option linter.unusedSimpArgs false

/-! ### notaryref36_List: function 42 -/
def notaryref36_List.l0 : Nat → List Int → List Int → Int → Option (List Int × Int)
  | 0, _, _, _ => none
  | k + 1, x0, x4, x5 => if x5 < (x0.length : Int) then (if 0 ≤ x5 then (if (rd x0 x5) < 0 then (some (([] : List Int), 13)) else (if (rd x0 x5) > 2147483647 then (some (([] : List Int), 13)) else ((notaryref01_Bytes.f k (IntKind.u64.wrap (rd x0 x5))).bind fun t216 => (if x4.length + t216.length < 140737488355328 then (notaryref36_List.l0 k x0 (x4 ++ t216) (wrap64 (x5 + 1))) else (none))))) else (none)) else (some (x4, 0))
def notaryref36_List.f (k : Nat) (l0 : List Int) : Option (List Int × Int) := (notaryref01_Bytes.f k (IntKind.u64.wrap (l0.length : Int))).bind fun t204 => (notaryref36_List.l0 k l0 t204 0)
set_option maxHeartbeats 8000000 in
set_option maxRecDepth 100000 in
theorem notaryref36_List.calls (k : Nat) (A0 : Option Addr) (c0 : Nat) (l0 : List Int) (r1 : List Int) (r2 : Int) (w : World) (hr0 : Kd.C (Kd.int .i64) w A0 l0.length l0) (hc0 : l0.length ≤ c0) (h : notaryref36_List.f k l0 = some (r1, r2)) :
    Calls Try.prog 42 #[.slice A0 l0.length c0] w fun e w' => ∃ v0_ : Value, e = .returned (.tuple #[v0_, .int .i64 r2]) ∧ Kd.R (Kd.int .u8) 5 w' w.heap.size (fun _ => True) v0_ r1 ∧ Below w.heap.size w w' := by
  have HR0 := Aside0.mk hr0
  have HC0 := Aside0.mk hc0
  clear hr0 hc0
  have HB := Aside0.mk (Below.refl w.heap.size w)
  have H : ((notaryref01_Bytes.f k (IntKind.u64.wrap (l0.length : Int))).bind fun t204 => (notaryref36_List.l0 k l0 t204 0)) = some (r1, r2) := h
  clear h
  replace H := Option.bind_eq_some_iff.mp H
  obtain ⟨t204, A20, H⟩ := H
  replace H : (notaryref36_List.l0 k l0 t204 0) = some (r1, r2) := H
  have A2 := Aside0.mk A20
  clear A20
  have H' := Aside0.mk H
  clear H
  go_enter Try.func42, Try.ntmps42
  go_wp2_with ((((with_reducible refine gate_callee (f := 34) rfl ?_); refine goesL_ (some 9) rfl rfl Try.func34 (by kernel_rfl) rfl #[.int .u64 (IntKind.u64.wrap (l0.length : Int))] rfl (by (try simp only [List.map_toArray, List.map_cons, List.map_nil]); (rfl)) ?_; (with_reducible refine (notaryref01_Bytes.calls k (IntKind.u64.wrap (l0.length : Int)) t204 _ A2.out).mono ?_); rintro e w3 ⟨v205, rfl, ho0, hb⟩; refine ⟨_, rfl, ?_⟩; have n0_ := Aside0.mk (Kd.R_lower ho0 (below_size HB.out)); have n1_ := Aside0.mk (below_step HB.out hb); clear HB; have HO206 := n0_; have HB := n1_; clear n0_ n1_; (try clear hb); (try clear ho0))))
  go_loopg [4, 5] k (fun kq v4 v5 w' => ∃ (x4_1 : List Int) (x5_1 : Int), v5 = .int .i64 x5_1 ∧ Aside0 (notaryref36_List.l0 kq l0 x4_1 x5_1 = some (r1, r2)) ∧ Aside0 (kq ≤ k) ∧ Aside0 (Kd.R (Kd.int .u8) 5 w' w.heap.size (fun _ => True) v4 x4_1) ∧ Aside0 (Below w.heap.size w w'))
  case atStart => exact ⟨(t204), (0), (by (rfl)), H', ⟨Nat.le_refl _⟩, ⟨by exact HO206.out⟩, ⟨HB.out⟩⟩
  clear H'
  obtain ⟨x4_1, x5_1, rfl, HA, HK1, HO_4, HB⟩ := hrel
  rcases gk with _ | k1
  · exact absurd HA.out (by simp [notaryref36_List.l0])
  have H := HA.out
  clear HA
  simp only [notaryref36_List.l0] at H
  by_cases c4 : x5_1 < (l0.length : Int)
  rotate_left
  · rw [if_neg c4] at H
    have c4b0 : decide (x5_1 < (l0.length : Int)) = false := decide_eq_false c4
    clear c4
    simp only [Option.some.injEq, Prod.mk.injEq] at H
    obtain ⟨rfl, rfl⟩ := H
    go_wp2
    go_ret2
    exact ⟨_, by (rfl), by exact HO_4.out, HB.out⟩


  rw [if_pos c4] at H
  have c4b0 : decide (x5_1 < (l0.length : Int)) = true := decide_eq_true c4
  clear c4
  by_cases c5 : 0 ≤ x5_1
  rotate_left
  · rw [if_neg c5] at H
    exact absurd H (by simp)
  rw [if_pos c5] at H
  have c5b0 : decide (0 ≤ x5_1) = true := decide_eq_true c5
  clear c5
  by_cases c6 : (rd l0 x5_1) < 0
  · rw [if_pos c6] at H
    have c6b0 : decide ((rd l0 x5_1) < 0) = true := decide_eq_true c6
    clear c6
    obtain ⟨y208, hy208⟩ : ∃ y_ : List Int, y_ = ([] : List Int) := ⟨_, rfl⟩
    replace H : (some (y208, 13)) = some (r1, r2) := by (rw [hy208]; with_reducible exact H)
    have Ny208 := Aside0.mk hy208
    clear hy208
    simp only [Option.some.injEq, Prod.mk.injEq] at H
    obtain ⟨rfl, rfl⟩ := H
    have p207 : 0 ≤ (x5_1 : Int) := of_decide_eq_true (by (with_reducible assumption))
    have q207 : x5_1 < (l0.length : Int) := of_decide_eq_true (by (with_reducible assumption))
    obtain ⟨ad207, e207, hx207_0⟩ := Kd.at_int HR0.out x5_1 p207 q207
    cases e207
    replace hx207_0 := pw_cell_below HB.out hx207_0
    replace p207 := eq_true p207
    replace q207 := eq_true q207
    go_wp2_with ((((with_reducible refine gate_dst (N := 28) rfl ?_); refine Kd.R_lit (Kd.int .u8) _ 5 ?hg (N := 28) ?hd (xs := ([] : List Int)) (inner := []) (ok := fun _ => True) (okp := fun _ => True) ?hr ?hp (fun _ hk => hk) trivial (Below.refl _ _) (Nat.le_refl _) (by simp) ?_; (case hd => rfl); (case hg => rfl); (case hr => (go_simp; done)); (case hp => exact (Reps.none _ _)); intro v209 w7 ho8 hb hg_ hnew_; clear hg_ hnew_; (rw [← Ny208.out] at ho8); have n0_ := Aside0.mk (Kd.R_elder' (by exact HO_4.out) (Kd.R_base ho8) hb); have n1_ := Aside0.mk (Kd.R_lower (Kd.R_new' ho8 (Kd.R_lt (by exact HO_4.out))) (below_size HB.out)); have n2_ := Aside0.mk (below_step HB.out hb); clear HO_4; clear HB; have HO_4 := n0_; have HO210 := n1_; have HB := n2_; clear n0_ n1_ n2_; clear hb ho8)))
    go_ret2
    exact ⟨_, by (rfl), by exact Kd.R_mono HO210.out (fun _ hk => trivial), HB.out⟩
  rw [if_neg c6] at H
  have c6b0 : decide ((rd l0 x5_1) < 0) = false := decide_eq_false c6
  clear c6
  by_cases c9 : (rd l0 x5_1) > 2147483647
  · rw [if_pos c9] at H
    have c9b0 : decide (2147483647 < (rd l0 x5_1)) = true := decide_eq_true c9
    clear c9
    obtain ⟨y212, hy212⟩ : ∃ y_ : List Int, y_ = ([] : List Int) := ⟨_, rfl⟩
    replace H : (some (y212, 13)) = some (r1, r2) := by (rw [hy212]; with_reducible exact H)
    have Ny212 := Aside0.mk hy212
    clear hy212
    simp only [Option.some.injEq, Prod.mk.injEq] at H
    obtain ⟨rfl, rfl⟩ := H
    have p207 : 0 ≤ (x5_1 : Int) := of_decide_eq_true (by (with_reducible assumption))
    have q207 : x5_1 < (l0.length : Int) := of_decide_eq_true (by (with_reducible assumption))
    obtain ⟨ad207, e207, hx207_0⟩ := Kd.at_int HR0.out x5_1 p207 q207
    cases e207
    replace hx207_0 := pw_cell_below HB.out hx207_0
    replace p207 := eq_true p207
    replace q207 := eq_true q207
    have p211 : 0 ≤ (x5_1 : Int) := of_decide_eq_true (by (with_reducible assumption))
    have q211 : x5_1 < (l0.length : Int) := of_decide_eq_true (by (with_reducible assumption))
    obtain ⟨ad211, e211, hx211_0⟩ := Kd.at_int HR0.out x5_1 p211 q211
    obtain rfl : ad207 = ad211 := (by injection e211)
    replace hx211_0 := pw_cell_below HB.out hx211_0
    replace p211 := eq_true p211
    replace q211 := eq_true q211
    go_wp2_with ((((with_reducible refine gate_dst (N := 28) rfl ?_); refine Kd.R_lit (Kd.int .u8) _ 5 ?hg (N := 28) ?hd (xs := ([] : List Int)) (inner := []) (ok := fun _ => True) (okp := fun _ => True) ?hr ?hp (fun _ hk => hk) trivial (Below.refl _ _) (Nat.le_refl _) (by simp) ?_; (case hd => rfl); (case hg => rfl); (case hr => (go_simp; done)); (case hp => exact (Reps.none _ _)); intro v213 w10 ho11 hb hg_ hnew_; clear hg_ hnew_; (rw [← Ny212.out] at ho11); have n0_ := Aside0.mk (Kd.R_elder' (by exact HO_4.out) (Kd.R_base ho11) hb); have n1_ := Aside0.mk (Kd.R_lower (Kd.R_new' ho11 (Kd.R_lt (by exact HO_4.out))) (below_size HB.out)); have n2_ := Aside0.mk (below_step HB.out hb); clear HO_4; clear HB; have HO_4 := n0_; have HO214 := n1_; have HB := n2_; clear n0_ n1_ n2_; clear hb ho11)))
    go_ret2
    exact ⟨_, by (rfl), by exact Kd.R_mono HO214.out (fun _ hk => trivial), HB.out⟩
  rw [if_neg c9] at H
  have c9b0 : decide (2147483647 < (rd l0 x5_1)) = false := decide_eq_false c9
  clear c9
  replace H := Option.bind_eq_some_iff.mp H
  obtain ⟨t216, A120, H⟩ := H
  replace H : (if x4_1.length + t216.length < 140737488355328 then (notaryref36_List.l0 k1 l0 (x4_1 ++ t216) (wrap64 (x5_1 + 1))) else (none)) = some (r1, r2) := H
  have A12 := Aside0.mk A120
  clear A120
  by_cases c13 : x4_1.length + t216.length < 140737488355328
  rotate_left
  · rw [if_neg c13] at H
    exact absurd H (by simp)
  rw [if_pos c13] at H
  have LMc13 := Aside0.mk c13
  clear c13
  obtain ⟨y219, hy219⟩ : ∃ y_ : List Int, y_ = (x4_1 ++ t216) := ⟨_, rfl⟩
  replace H : (notaryref36_List.l0 k1 l0 y219 (wrap64 (x5_1 + 1))) = some (r1, r2) := by (rw [hy219]; with_reducible exact H)
  have Ny219 := Aside0.mk hy219
  clear hy219
  have H' := Aside0.mk H
  clear H
  have p207 : 0 ≤ (x5_1 : Int) := of_decide_eq_true (by (with_reducible assumption))
  have q207 : x5_1 < (l0.length : Int) := of_decide_eq_true (by (with_reducible assumption))
  obtain ⟨ad207, e207, hx207_0⟩ := Kd.at_int HR0.out x5_1 p207 q207
  cases e207
  replace hx207_0 := pw_cell_below HB.out hx207_0
  replace p207 := eq_true p207
  replace q207 := eq_true q207
  have p211 : 0 ≤ (x5_1 : Int) := of_decide_eq_true (by (with_reducible assumption))
  have q211 : x5_1 < (l0.length : Int) := of_decide_eq_true (by (with_reducible assumption))
  obtain ⟨ad211, e211, hx211_0⟩ := Kd.at_int HR0.out x5_1 p211 q211
  obtain rfl : ad207 = ad211 := (by injection e211)
  replace hx211_0 := pw_cell_below HB.out hx211_0
  replace p211 := eq_true p211
  replace q211 := eq_true q211
  have p215 : 0 ≤ (x5_1 : Int) := of_decide_eq_true (by (with_reducible assumption))
  have q215 : x5_1 < (l0.length : Int) := of_decide_eq_true (by (with_reducible assumption))
  obtain ⟨ad215, e215, hx215_0⟩ := Kd.at_int HR0.out x5_1 p215 q215
  obtain rfl : ad207 = ad215 := (by injection e215)
  replace hx215_0 := pw_cell_below HB.out hx215_0
  replace p215 := eq_true p215
  replace q215 := eq_true q215
  go_wp2_with (first | ((with_reducible refine gate_callee (f := 34) rfl ?_); refine goesL_ (some 35) rfl rfl Try.func34 (by kernel_rfl) rfl #[.int .u64 (IntKind.u64.wrap (rd l0 x5_1))] rfl (by (try simp only [List.map_toArray, List.map_cons, List.map_nil]); (rfl)) ?_; (with_reducible refine (notaryref01_Bytes.calls k1 (IntKind.u64.wrap (rd l0 x5_1)) t216 _ A12.out).mono ?_); rintro e w14 ⟨v217, rfl, ho0, hb⟩; refine ⟨_, rfl, ?_⟩; have n0_ := Aside0.mk (Kd.R_elder' (by exact HO_4.out) (Kd.R_base ho0) hb); have n1_ := Aside0.mk (Kd.R_lower (Kd.R_new' ho0 (Kd.R_lt (by exact HO_4.out))) (below_size HB.out)); have n2_ := Aside0.mk (below_step HB.out hb); clear HO_4; clear HB; have HO_4 := n0_; have HO218 := n1_; have HB := n2_; clear n0_ n1_ n2_; (try clear hb); (try clear ho0); obtain ⟨Ao16, co16, eo16⟩ := Kd.R_slice HO218.out; subst eo16) | ((with_reducible refine gate_builtin (b := .append) (xs := #[.tmp 29, .tmp 35]) rfl ?_); at_builtin; refine Kd.R_append_rows (Kd.int .u8) (w0 := w) w.heap.size rfl (.tmp 29) (.tmp 35) 22 5 (.int .u8 0) 1 rfl Try.underlying22 info5 rfl (by decide) (by omega) u4 x4_1 t216 _ _ _ (fun k_ => some k_ ≠ (.slice Ao16 t216.length co16 : Value).ownBlock) (fun _ => False) rfl rfl ?aO ?aR (fun _ _ h => h) (fun _ h => h.elim) ?aF ?aB ?aS ?aL ?_; (case aR => repeat ((exact (Kd.R_reads' HO218.out).2.2))); (case aB => exact HB.out); (case aF => exact (fun k_ hk => Kd.fresh' (Kd.R_lt (by exact HO218.out)) k_ hk)); (case aO => exact (by exact Kd.R_mono HO_4.out (fun _ hk => hk.2))); (case aS => exact (below_size HB.out)); (case aL => have := LMc13.out; omega); intro v220 w15 ho hb hg hat; rw [← Ny219.out] at ho; have n0_ := Aside0.mk (Kd.R_after (ok := (fun _ => True)) (by exact HO218.out) hg hat); have n1_ := Aside0.mk (hb); have n2_ := Aside0.mk (ho); clear HO218; clear HB; clear HO_4; have HO218 := n0_; have HB := n1_; have HO221 := n2_; clear n0_ n1_ n2_; clear ho hb hg hat))
  go_roundg k1
  case measure => have := HK1.out; omega
  case rel => exact ⟨(y219), (wrap64 (x5_1 + 1)), (by (rfl)), H', ⟨by have := HK1.out; omega⟩, ⟨by exact Kd.R_mono HO221.out (fun _ hk => trivial)⟩, ⟨HB.out⟩⟩/-! ### notaryref36_Step: function 41 -/
mutual
def notaryref36_Step.j0 : Nat → Bool → Int → Bool → List Int → List Int → Int → Int → ByteArray → List (S25) → Int → Int → Option (List Int × Int)
  | 0, _, _, _, _, _, _, _, _, _, _, _ => none
  | k + 1, x17, x223000, x223001, x223002, x223003, x223004, x223005, x223006, x223007, x223008, x223009 => if x17 = true then (some (([] : List Int), 13)) else (if x223001 = true then (notaryref36_Step.j1 k 1 x223000 x223001 x223002 x223003 x223004 x223005 x223006 x223007 x223008 x223009) else (notaryref36_Step.j1 k 0 x223000 x223001 x223002 x223003 x223004 x223005 x223006 x223007 x223008 x223009))
def notaryref36_Step.j1 : Nat → Int → Int → Bool → List Int → List Int → Int → Int → ByteArray → List (S25) → Int → Int → Option (List Int × Int)
  | 0, _, _, _, _, _, _, _, _, _, _, _ => none
  | k + 1, x4, x223000, x223001, x223002, x223003, x223004, x223005, x223006, x223007, x223008, x223009 => (notaryref01_Bytes.f k (IntKind.u64.wrap (x223000))).bind fun t226 => (if t226.length < 140737488355328 then ((some (t226 ++ [x4] : List Int)).bind fun y229 => ((notaryref36_List.f k x223002).bind fun bt232 => (if bt232.2 = 0 then ((notaryref36_List.f k x223003).bind fun bt239 => (if bt239.2 = 0 then ((notaryref36_Term.f k x223004 x223005 x223006 x223007 x223008 x223009 1).bind fun bt243 => (if bt243.2 = 0 then (if y229.length + bt232.1.length < 140737488355328 then ((some (y229 ++ bt232.1 : List Int)).bind fun y247 => (if y247.length + bt239.1.length < 140737488355328 then ((some (y247 ++ bt239.1 : List Int)).bind fun y250 => (if y250.length + bt243.1.length < 140737488355328 then (some ((y250 ++ bt243.1), 0)) else (none))) else (none))) else (none)) else (some (([] : List Int), bt243.2)))) else (some (([] : List Int), bt239.2)))) else (some (([] : List Int), bt232.2))))) else (none))
end
def notaryref36_Step.f (k : Nat) (a0_0 : Int) (a0_1 : Bool) (l0_2 : List Int) (l0_3 : List Int) (a0_4 : Int) (a0_5 : Int) (a0_6 : ByteArray) (l0_7 : List (S25)) (a0_8 : Int) (a0_9 : Int) : Option (List Int × Int) := if a0_0 < 0 then (notaryref36_Step.j0 k true a0_0 a0_1 l0_2 l0_3 a0_4 a0_5 a0_6 l0_7 a0_8 a0_9) else (notaryref36_Step.j0 k (decide (a0_0 > 2147483647)) a0_0 a0_1 l0_2 l0_3 a0_4 a0_5 a0_6 l0_7 a0_8 a0_9)
set_option maxHeartbeats 8000000 in
set_option maxRecDepth 100000 in
theorem notaryref36_Step.calls (k : Nat) (a0_0 : Int) (a0_1 : Bool) (A0_2 : Option Addr) (c0_2 : Nat) (l0_2 : List Int) (A0_3 : Option Addr) (c0_3 : Nat) (l0_3 : List Int) (a0_4 : Int) (a0_5 : Int) (a0_6 : ByteArray) (A0_7 : Option Addr) (c0_7 : Nat) (l0_7 : List (S25)) (a0_8 : Int) (a0_9 : Int) (r1 : List Int) (r2 : Int) (w : World) (hr0_2 : Kd.C (Kd.int .i64) w A0_2 l0_2.length l0_2) (hc0_2 : l0_2.length ≤ c0_2) (hr0_3 : Kd.C (Kd.int .i64) w A0_3 l0_3.length l0_3) (hc0_3 : l0_3.length ≤ c0_3) (hr0_7 : Kd.C k25 w A0_7 l0_7.length l0_7) (hc0_7 : l0_7.length ≤ c0_7) (h : notaryref36_Step.f k a0_0 a0_1 l0_2 l0_3 a0_4 a0_5 a0_6 l0_7 a0_8 a0_9 = some (r1, r2)) :
    Calls Try.prog 41 #[.agg #[.int .i64 a0_0, .bool a0_1, .slice A0_2 l0_2.length c0_2, .slice A0_3 l0_3.length c0_3, .int .i64 a0_4, .int .i64 a0_5, .string a0_6, .slice A0_7 l0_7.length c0_7, .int .i64 a0_8, .int .i64 a0_9]] w fun e w' => ∃ v0_ : Value, e = .returned (.tuple #[v0_, .int .i64 r2]) ∧ Kd.R (Kd.int .u8) 5 w' w.heap.size (fun _ => True) v0_ r1 ∧ Below w.heap.size w w' := by
  have hu39 := Try.underlying39
  have hu25 := Try.underlying25
  have HR0_2 := Aside0.mk hr0_2
  have HC0_2 := Aside0.mk hc0_2
  clear hr0_2 hc0_2
  have HR0_3 := Aside0.mk hr0_3
  have HC0_3 := Aside0.mk hc0_3
  clear hr0_3 hc0_3
  have HR0_7 := Aside0.mk hr0_7
  have HC0_7 := Aside0.mk hc0_7
  clear hr0_7 hc0_7
  have HB := Aside0.mk (Below.refl w.heap.size w)
  have H : (if a0_0 < 0 then (notaryref36_Step.j0 k true a0_0 a0_1 l0_2 l0_3 a0_4 a0_5 a0_6 l0_7 a0_8 a0_9) else (notaryref36_Step.j0 k (decide (a0_0 > 2147483647)) a0_0 a0_1 l0_2 l0_3 a0_4 a0_5 a0_6 l0_7 a0_8 a0_9)) = some (r1, r2) := h
  clear h
  have HC2 := Aside0.mk H
  clear H
  go_enter Try.func41, Try.ntmps41
  go_upto_region 1 with ((((with_reducible refine gate_dst (N := 1) rfl ?_); refine box_event ?hg (N := 1) ?hd (cs := #[.int .i64 a0_0, .bool a0_1, .slice A0_2 l0_2.length c0_2, .slice A0_3 l0_3.length c0_3, .int .i64 a0_4, .int .i64 a0_5, .string a0_6, .slice A0_7 l0_7.length c0_7, .int .i64 a0_8, .int .i64 a0_9]) (t := 39) ?hr ?_; (case hd => rfl); (case hg => rfl); (case hr => (go_simp; done)); intro gb222 hg w3 hbox hb; have n0_ := Aside0.mk (below_step HB.out hb); have n1_ := Aside0.mk (hbox); have n2_ := Aside0.mk ((by rw [hg]; exact (below_size HB.out) : w.heap.size ≤ gb222)); have n3_ := Aside0.mk ((by rw [hg]; exact (below_size HB.out) : w.heap.size ≤ gb222)); clear HB; have HB := n0_; have BK222 := n1_; have GW222 := n2_; have GE222 := n3_; clear n0_ n1_ n2_ n3_; clear hb hbox hg)))
  (skip)
  go_cut [17] (fun v17 wc => ∃ (kq : Nat) (x17_1 : Bool), v17 = .bool x17_1 ∧ Aside0 (notaryref36_Step.j0 kq x17_1 a0_0 a0_1 l0_2 l0_3 a0_4 a0_5 a0_6 l0_7 a0_8 a0_9 = some (r1, r2)) ∧ Aside0 (kq ≤ k) ∧ Aside0 (wc.heap[gb222]? = some (.cells #[.int .i64 a0_0, .bool a0_1, (.slice A0_2 l0_2.length c0_2), (.slice A0_3 l0_3.length c0_3), .int .i64 a0_4, .int .i64 a0_5, .string a0_6, (.slice A0_7 l0_7.length c0_7), .int .i64 a0_8, .int .i64 a0_9] 39 (0, 0))) ∧ Aside0 (Below w.heap.size w wc))
  case first =>
    have H := HC2.out
    clear HC2
    by_cases c4 : a0_0 < 0
    · rw [if_pos c4] at H
      have c4b0 : decide (a0_0 < 0) = true := decide_eq_true c4
      clear c4
      (skip)
      have H' := Aside0.mk H
      clear H
      have hcz5_0 : w3.cell? ⟨gb222, 0, none⟩ = some (.int .i64 a0_0) := (blk_cell BK222.out 0).trans rfl
      have hcz5_1 : w3.cell? ⟨gb222, 1, none⟩ = some (.bool a0_1) := (blk_cell BK222.out 1).trans rfl
      have hcz5_2 : w3.cell? ⟨gb222, 2, none⟩ = some (.slice A0_2 l0_2.length c0_2) := (blk_cell BK222.out 2).trans rfl
      have hcz5_3 : w3.cell? ⟨gb222, 3, none⟩ = some (.slice A0_3 l0_3.length c0_3) := (blk_cell BK222.out 3).trans rfl
      have hcz5_4 : w3.cell? ⟨gb222, 4, none⟩ = some (.int .i64 a0_4) := (blk_cell BK222.out 4).trans rfl
      have hcz5_5 : w3.cell? ⟨gb222, 5, none⟩ = some (.int .i64 a0_5) := (blk_cell BK222.out 5).trans rfl
      have hcz5_6 : w3.cell? ⟨gb222, 6, none⟩ = some (.string a0_6) := (blk_cell BK222.out 6).trans rfl
      have hcz5_7 : w3.cell? ⟨gb222, 7, none⟩ = some (.slice A0_7 l0_7.length c0_7) := (blk_cell BK222.out 7).trans rfl
      have hcz5_8 : w3.cell? ⟨gb222, 8, none⟩ = some (.int .i64 a0_8) := (blk_cell BK222.out 8).trans rfl
      have hcz5_9 : w3.cell? ⟨gb222, 9, none⟩ = some (.int .i64 a0_9) := (blk_cell BK222.out 9).trans rfl
      have hfz5_0 := blk_frozen BK222.out 0
      have hfz5_1 := blk_frozen BK222.out 1
      have hfz5_2 := blk_frozen BK222.out 2
      have hfz5_3 := blk_frozen BK222.out 3
      have hfz5_4 := blk_frozen BK222.out 4
      have hfz5_5 := blk_frozen BK222.out 5
      have hfz5_6 := blk_frozen BK222.out 6
      have hfz5_7 := blk_frozen BK222.out 7
      have hfz5_8 := blk_frozen BK222.out 8
      have hfz5_9 := blk_frozen BK222.out 9
      go_wp2
      go_meet
      case rel => exact ⟨_, (true), (by (rfl)), H', ⟨by (omega)⟩, ⟨by exact BK222.out⟩, ⟨HB.out⟩⟩
    rw [if_neg c4] at H
    have c4b0 : decide (a0_0 < 0) = false := decide_eq_false c4
    clear c4
    (skip)
    have H' := Aside0.mk H
    clear H
    have hcz6_0 : w3.cell? ⟨gb222, 0, none⟩ = some (.int .i64 a0_0) := (blk_cell BK222.out 0).trans rfl
    have hcz6_1 : w3.cell? ⟨gb222, 1, none⟩ = some (.bool a0_1) := (blk_cell BK222.out 1).trans rfl
    have hcz6_2 : w3.cell? ⟨gb222, 2, none⟩ = some (.slice A0_2 l0_2.length c0_2) := (blk_cell BK222.out 2).trans rfl
    have hcz6_3 : w3.cell? ⟨gb222, 3, none⟩ = some (.slice A0_3 l0_3.length c0_3) := (blk_cell BK222.out 3).trans rfl
    have hcz6_4 : w3.cell? ⟨gb222, 4, none⟩ = some (.int .i64 a0_4) := (blk_cell BK222.out 4).trans rfl
    have hcz6_5 : w3.cell? ⟨gb222, 5, none⟩ = some (.int .i64 a0_5) := (blk_cell BK222.out 5).trans rfl
    have hcz6_6 : w3.cell? ⟨gb222, 6, none⟩ = some (.string a0_6) := (blk_cell BK222.out 6).trans rfl
    have hcz6_7 : w3.cell? ⟨gb222, 7, none⟩ = some (.slice A0_7 l0_7.length c0_7) := (blk_cell BK222.out 7).trans rfl
    have hcz6_8 : w3.cell? ⟨gb222, 8, none⟩ = some (.int .i64 a0_8) := (blk_cell BK222.out 8).trans rfl
    have hcz6_9 : w3.cell? ⟨gb222, 9, none⟩ = some (.int .i64 a0_9) := (blk_cell BK222.out 9).trans rfl
    have hfz6_0 := blk_frozen BK222.out 0
    have hfz6_1 := blk_frozen BK222.out 1
    have hfz6_2 := blk_frozen BK222.out 2
    have hfz6_3 := blk_frozen BK222.out 3
    have hfz6_4 := blk_frozen BK222.out 4
    have hfz6_5 := blk_frozen BK222.out 5
    have hfz6_6 := blk_frozen BK222.out 6
    have hfz6_7 := blk_frozen BK222.out 7
    have hfz6_8 := blk_frozen BK222.out 8
    have hfz6_9 := blk_frozen BK222.out 9
    go_wp2
    go_meet
    case rel => exact ⟨_, (decide (a0_0 > 2147483647)), (by (rfl)), H', ⟨by (omega)⟩, ⟨by exact BK222.out⟩, ⟨HB.out⟩⟩
  clear HC2
  obtain ⟨kq, x17_1, rfl, HA, HJ1, BK222, HB⟩ := hcut
  rcases kq with _ | kj1
  · exact absurd HA.out (by simp [notaryref36_Step.j0])
  have H := HA.out
  clear HA
  simp only [notaryref36_Step.j0] at H
  by_cases c7 : x17_1 = true
  · subst c7
    have H1 : (some (([] : List Int), 13)) = some (r1, r2) := by rw [if_pos rfl] at H; exact H
    clear H
    have H := H1
    clear H1
    obtain ⟨y223, hy223⟩ : ∃ y_ : List Int, y_ = ([] : List Int) := ⟨_, rfl⟩
    replace H : (some (y223, 13)) = some (r1, r2) := by (rw [hy223]; with_reducible exact H)
    have Ny223 := Aside0.mk hy223
    clear hy223
    simp only [Option.some.injEq, Prod.mk.injEq] at H
    obtain ⟨rfl, rfl⟩ := H
    go_wp2_with ((((with_reducible refine gate_dst (N := 18) rfl ?_); refine Kd.R_lit (Kd.int .u8) _ 5 ?hg (N := 18) ?hd (xs := ([] : List Int)) (inner := []) (ok := fun _ => True) (okp := fun _ => True) ?hr ?hp (fun _ hk => hk) trivial (Below.refl _ _) (Nat.le_refl _) (by simp) ?_; (case hd => rfl); (case hg => rfl); (case hr => (go_simp; done)); (case hp => exact (Reps.none _ _)); intro v224 w8 ho9 hb hg_ hnew_; clear hg_ hnew_; (rw [← Ny223.out] at ho9); have n0_ := Aside0.mk (Kd.R_lower ho9 (below_size HB.out)); have n1_ := Aside0.mk (blk_below (g := gb222) (o := .cells #[.int .i64 a0_0, .bool a0_1, .slice A0_2 l0_2.length c0_2, .slice A0_3 l0_3.length c0_3, .int .i64 a0_4, .int .i64 a0_5, .string a0_6, .slice A0_7 l0_7.length c0_7, .int .i64 a0_8, .int .i64 a0_9] 39 (0, 0)) (by exact BK222.out) hb); have n2_ := Aside0.mk (below_step HB.out hb); clear BK222; clear HB; have HO225 := n0_; have BK222 := n1_; have HB := n2_; clear n0_ n1_ n2_; clear hb ho9)))
    go_ret2
    exact ⟨_, by (rfl), by exact HO225.out, HB.out⟩
  replace c7 := Bool.eq_false_iff.mpr c7
  subst c7
  have H1 : (if a0_1 = true then (notaryref36_Step.j1 kj1 1 a0_0 a0_1 l0_2 l0_3 a0_4 a0_5 a0_6 l0_7 a0_8 a0_9) else (notaryref36_Step.j1 kj1 0 a0_0 a0_1 l0_2 l0_3 a0_4 a0_5 a0_6 l0_7 a0_8 a0_9)) = some (r1, r2) := by rw [if_neg (show ¬ (false = true) by decide)] at H; exact H
  clear H
  have H := H1
  clear H1
  have HC10 := Aside0.mk H
  clear H
  have hcz11_0 : wc.cell? ⟨gb222, 0, none⟩ = some (.int .i64 a0_0) := (blk_cell BK222.out 0).trans rfl
  have hcz11_1 : wc.cell? ⟨gb222, 1, none⟩ = some (.bool a0_1) := (blk_cell BK222.out 1).trans rfl
  have hcz11_2 : wc.cell? ⟨gb222, 2, none⟩ = some (.slice A0_2 l0_2.length c0_2) := (blk_cell BK222.out 2).trans rfl
  have hcz11_3 : wc.cell? ⟨gb222, 3, none⟩ = some (.slice A0_3 l0_3.length c0_3) := (blk_cell BK222.out 3).trans rfl
  have hcz11_4 : wc.cell? ⟨gb222, 4, none⟩ = some (.int .i64 a0_4) := (blk_cell BK222.out 4).trans rfl
  have hcz11_5 : wc.cell? ⟨gb222, 5, none⟩ = some (.int .i64 a0_5) := (blk_cell BK222.out 5).trans rfl
  have hcz11_6 : wc.cell? ⟨gb222, 6, none⟩ = some (.string a0_6) := (blk_cell BK222.out 6).trans rfl
  have hcz11_7 : wc.cell? ⟨gb222, 7, none⟩ = some (.slice A0_7 l0_7.length c0_7) := (blk_cell BK222.out 7).trans rfl
  have hcz11_8 : wc.cell? ⟨gb222, 8, none⟩ = some (.int .i64 a0_8) := (blk_cell BK222.out 8).trans rfl
  have hcz11_9 : wc.cell? ⟨gb222, 9, none⟩ = some (.int .i64 a0_9) := (blk_cell BK222.out 9).trans rfl
  have hfz11_0 := blk_frozen BK222.out 0
  have hfz11_1 := blk_frozen BK222.out 1
  have hfz11_2 := blk_frozen BK222.out 2
  have hfz11_3 := blk_frozen BK222.out 3
  have hfz11_4 := blk_frozen BK222.out 4
  have hfz11_5 := blk_frozen BK222.out 5
  have hfz11_6 := blk_frozen BK222.out 6
  have hfz11_7 := blk_frozen BK222.out 7
  have hfz11_8 := blk_frozen BK222.out 8
  have hfz11_9 := blk_frozen BK222.out 9
  go_upto_if 20 with (fail)
  go_cut [4] (fun v4 wc => ∃ (kq : Nat) (x4_9 : Int), v4 = .int .u8 x4_9 ∧ Aside0 (notaryref36_Step.j1 kq x4_9 a0_0 a0_1 l0_2 l0_3 a0_4 a0_5 a0_6 l0_7 a0_8 a0_9 = some (r1, r2)) ∧ Aside0 (kq ≤ kj1) ∧ Aside0 (wc.heap[gb222]? = some (.cells #[.int .i64 a0_0, .bool a0_1, (.slice A0_2 l0_2.length c0_2), (.slice A0_3 l0_3.length c0_3), .int .i64 a0_4, .int .i64 a0_5, .string a0_6, (.slice A0_7 l0_7.length c0_7), .int .i64 a0_8, .int .i64 a0_9] 39 (0, 0))) ∧ Aside0 (Below w.heap.size w wc))
  case first =>
    have H := HC10.out
    clear HC10
    by_cases c12 : a0_1 = true
    · subst c12
      have H1 : (notaryref36_Step.j1 kj1 1 a0_0 true l0_2 l0_3 a0_4 a0_5 a0_6 l0_7 a0_8 a0_9) = some (r1, r2) := by rw [if_pos rfl] at H; exact H
      clear H
      have H := H1
      clear H1
      have H' := Aside0.mk H
      clear H
      go_wp2
      go_meet
      case rel => exact ⟨_, (1), (by (rfl)), H', ⟨by have := HJ1.out; (omega)⟩, ⟨by exact BK222.out⟩, ⟨HB.out⟩⟩
    replace c12 := Bool.eq_false_iff.mpr c12
    subst c12
    have H1 : (notaryref36_Step.j1 kj1 0 a0_0 false l0_2 l0_3 a0_4 a0_5 a0_6 l0_7 a0_8 a0_9) = some (r1, r2) := by rw [if_neg (show ¬ (false = true) by decide)] at H; exact H
    clear H
    have H := H1
    clear H1
    have H' := Aside0.mk H
    clear H
    go_wp2
    go_meet
    case rel => exact ⟨_, (0), (by (rfl)), H', ⟨by have := HJ1.out; (omega)⟩, ⟨by exact BK222.out⟩, ⟨HB.out⟩⟩
  clear HC10
  try clear hcz11_0
  try clear hcz11_1
  try clear hcz11_2
  try clear hcz11_3
  try clear hcz11_4
  try clear hcz11_5
  try clear hcz11_6
  try clear hcz11_7
  try clear hcz11_8
  try clear hcz11_9
  try clear hfz11_0
  try clear hfz11_1
  try clear hfz11_2
  try clear hfz11_3
  try clear hfz11_4
  try clear hfz11_5
  try clear hfz11_6
  try clear hfz11_7
  try clear hfz11_8
  try clear hfz11_9
  obtain ⟨kq, x4_9, rfl, HA, HJ9, BK222, HB⟩ := hcut
  rcases kq with _ | kj9
  · exact absurd HA.out (by simp [notaryref36_Step.j1])
  have H := HA.out
  clear HA
  simp only [notaryref36_Step.j1] at H
  replace H := Option.bind_eq_some_iff.mp H
  obtain ⟨t226, A130, H⟩ := H
  replace H : (if t226.length < 140737488355328 then ((some (t226 ++ [x4_9] : List Int)).bind fun y229 => ((notaryref36_List.f kj9 l0_2).bind fun bt232 => (if bt232.2 = 0 then ((notaryref36_List.f kj9 l0_3).bind fun bt239 => (if bt239.2 = 0 then ((notaryref36_Term.f kj9 a0_4 a0_5 a0_6 l0_7 a0_8 a0_9 1).bind fun bt243 => (if bt243.2 = 0 then (if y229.length + bt232.1.length < 140737488355328 then ((some (y229 ++ bt232.1 : List Int)).bind fun y247 => (if y247.length + bt239.1.length < 140737488355328 then ((some (y247 ++ bt239.1 : List Int)).bind fun y250 => (if y250.length + bt243.1.length < 140737488355328 then (some ((y250 ++ bt243.1), 0)) else (none))) else (none))) else (none)) else (some (([] : List Int), bt243.2)))) else (some (([] : List Int), bt239.2)))) else (some (([] : List Int), bt232.2))))) else (none)) = some (r1, r2) := H
  have A13 := Aside0.mk A130
  clear A130
  by_cases c14 : t226.length < 140737488355328
  rotate_left
  · rw [if_neg c14] at H
    exact absurd H (by simp)

  rw [if_pos c14] at H
  have LMc14 := Aside0.mk c14
  clear c14
  obtain ⟨y229, hy229⟩ : ∃ y_ : List Int, y_ = (t226 ++ [x4_9]) := ⟨_, rfl⟩
  replace H : ((notaryref36_List.f kj9 l0_2).bind fun bt232 => (if bt232.2 = 0 then ((notaryref36_List.f kj9 l0_3).bind fun bt239 => (if bt239.2 = 0 then ((notaryref36_Term.f kj9 a0_4 a0_5 a0_6 l0_7 a0_8 a0_9 1).bind fun bt243 => (if bt243.2 = 0 then (if y229.length + bt232.1.length < 140737488355328 then ((some (y229 ++ bt232.1 : List Int)).bind fun y247 => (if y247.length + bt239.1.length < 140737488355328 then ((some (y247 ++ bt239.1 : List Int)).bind fun y250 => (if y250.length + bt243.1.length < 140737488355328 then (some ((y250 ++ bt243.1), 0)) else (none))) else (none))) else (none)) else (some (([] : List Int), bt243.2)))) else (some (([] : List Int), bt239.2)))) else (some (([] : List Int), bt232.2)))) = some (r1, r2) := by ((have H2_ := (Option.bind_some _ _).symm.trans H; rw [hy229]; with_reducible exact H2_))
  have Ny229 := Aside0.mk hy229
  clear hy229
  replace H := Option.bind_eq_some_iff.mp H
  obtain ⟨⟨t232, t233⟩, A150, H⟩ := H
  replace H : (if t233 = 0 then ((notaryref36_List.f kj9 l0_3).bind fun bt239 => (if bt239.2 = 0 then ((notaryref36_Term.f kj9 a0_4 a0_5 a0_6 l0_7 a0_8 a0_9 1).bind fun bt243 => (if bt243.2 = 0 then (if y229.length + t232.length < 140737488355328 then ((some (y229 ++ t232 : List Int)).bind fun y247 => (if y247.length + bt239.1.length < 140737488355328 then ((some (y247 ++ bt239.1 : List Int)).bind fun y250 => (if y250.length + bt243.1.length < 140737488355328 then (some ((y250 ++ bt243.1), 0)) else (none))) else (none))) else (none)) else (some (([] : List Int), bt243.2)))) else (some (([] : List Int), bt239.2)))) else (some (([] : List Int), t233))) = some (r1, r2) := H
  have A15 := Aside0.mk A150
  clear A150
  by_cases c16 : t233 = 0
  rotate_left
  · rw [if_neg c16] at H
    have c16b0 : (t233 == 0) = false := beq_eq_false_iff_ne.mpr c16
    have c16b1 : (t233 != 0) = true := bne_iff_ne.mpr c16
    obtain ⟨y236, hy236⟩ : ∃ y_ : List Int, y_ = ([] : List Int) := ⟨_, rfl⟩
    replace H : (some (y236, t233)) = some (r1, r2) := by (rw [hy236]; with_reducible exact H)
    have Ny236 := Aside0.mk hy236
    clear hy236
    simp only [Option.some.injEq, Prod.mk.injEq] at H
    obtain ⟨rfl, rfl⟩ := H
    have hcz59_0 : wc.cell? ⟨gb222, 0, none⟩ = some (.int .i64 a0_0) := (blk_cell BK222.out 0).trans rfl
    have hcz59_1 : wc.cell? ⟨gb222, 1, none⟩ = some (.bool a0_1) := (blk_cell BK222.out 1).trans rfl
    have hcz59_2 : wc.cell? ⟨gb222, 2, none⟩ = some (.slice A0_2 l0_2.length c0_2) := (blk_cell BK222.out 2).trans rfl
    have hcz59_3 : wc.cell? ⟨gb222, 3, none⟩ = some (.slice A0_3 l0_3.length c0_3) := (blk_cell BK222.out 3).trans rfl
    have hcz59_4 : wc.cell? ⟨gb222, 4, none⟩ = some (.int .i64 a0_4) := (blk_cell BK222.out 4).trans rfl
    have hcz59_5 : wc.cell? ⟨gb222, 5, none⟩ = some (.int .i64 a0_5) := (blk_cell BK222.out 5).trans rfl
    have hcz59_6 : wc.cell? ⟨gb222, 6, none⟩ = some (.string a0_6) := (blk_cell BK222.out 6).trans rfl
    have hcz59_7 : wc.cell? ⟨gb222, 7, none⟩ = some (.slice A0_7 l0_7.length c0_7) := (blk_cell BK222.out 7).trans rfl
    have hcz59_8 : wc.cell? ⟨gb222, 8, none⟩ = some (.int .i64 a0_8) := (blk_cell BK222.out 8).trans rfl
    have hcz59_9 : wc.cell? ⟨gb222, 9, none⟩ = some (.int .i64 a0_9) := (blk_cell BK222.out 9).trans rfl
    have hfz59_0 := blk_frozen BK222.out 0
    have hfz59_1 := blk_frozen BK222.out 1
    have hfz59_2 := blk_frozen BK222.out 2
    have hfz59_3 := blk_frozen BK222.out 3
    have hfz59_4 := blk_frozen BK222.out 4
    have hfz59_5 := blk_frozen BK222.out 5
    have hfz59_6 := blk_frozen BK222.out 6
    have hfz59_7 := blk_frozen BK222.out 7
    have hfz59_8 := blk_frozen BK222.out 8
    have hfz59_9 := blk_frozen BK222.out 9
    go_wp2_with (first | ((with_reducible refine gate_callee (f := 34) rfl ?_); refine goesL_ (some 24) rfl rfl Try.func34 (by kernel_rfl) rfl #[.int .u64 (IntKind.u64.wrap (a0_0))] rfl (by (try simp only [List.map_toArray, List.map_cons, List.map_nil]); (rfl)) ?_; (with_reducible refine (notaryref01_Bytes.calls kj9 (IntKind.u64.wrap (a0_0)) t226 _ A13.out).mono ?_); rintro e w60 ⟨v227, rfl, ho0, hb⟩; refine ⟨_, rfl, ?_⟩; have n0_ := Aside0.mk (Kd.R_lower ho0 (below_size HB.out)); have n1_ := Aside0.mk (blk_below (g := gb222) (o := .cells #[.int .i64 a0_0, .bool a0_1, .slice A0_2 l0_2.length c0_2, .slice A0_3 l0_3.length c0_3, .int .i64 a0_4, .int .i64 a0_5, .string a0_6, .slice A0_7 l0_7.length c0_7, .int .i64 a0_8, .int .i64 a0_9] 39 (0, 0)) (by exact BK222.out) hb); have n2_ := Aside0.mk (below_step HB.out hb); clear BK222; clear HB; have HO228 := n0_; have BK222 := n1_; have HB := n2_; clear n0_ n1_ n2_; (try clear hb); (try clear ho0)) | ((with_reducible refine gate_builtin (b := .append) (xs := #[.tmp 24, .tmp 26]) rfl ?_); at_builtin; refine Kd.R_append (Kd.int .u8) (w0 := w) w.heap.size rfl (.tmp 24) (.tmp 26) 22 5 (.int .u8 0) 1 rfl Try.underlying22 info5 rfl (by decide) (by omega) v227 t226 x4_9 [.int .u8 x4_9] (fun _ => True) (fun _ => False) rfl rfl ?aP (fun _ hk => hk.elim) ?aF ?aO ?aB ?aS ?aL ?_; (case aP => exact rfl); (case aB => exact HB.out); (case aF => exact (fun _ _ => trivial)); (case aO => exact (by exact HO228.out)); (case aS => exact (below_size HB.out)); (case aL => have := LMc14.out; omega); intro v230 w61 ho hb hg hat; rw [← Ny229.out] at ho; have n0_ := Aside0.mk (blk_grown (g := gb222) (o := .cells #[.int .i64 a0_0, .bool a0_1, .slice A0_2 l0_2.length c0_2, .slice A0_3 l0_3.length c0_3, .int .i64 a0_4, .int .i64 a0_5, .string a0_6, .slice A0_7 l0_7.length c0_7, .int .i64 a0_8, .int .i64 a0_9] 39 (0, 0)) (by exact BK222.out) hg (Kd.R_ne HO228.out BK222.out (by decide))); have n1_ := Aside0.mk (hb); have n2_ := Aside0.mk (ho); clear BK222; clear HB; clear HO228; have BK222 := n0_; have HB := n1_; have HO231 := n2_; clear n0_ n1_ n2_; clear ho hb hg hat; have hcz62_0 : w61.cell? ⟨gb222, 0, none⟩ = some (.int .i64 a0_0) := (blk_cell BK222.out 0).trans rfl; have hcz62_1 : w61.cell? ⟨gb222, 1, none⟩ = some (.bool a0_1) := (blk_cell BK222.out 1).trans rfl; have hcz62_2 : w61.cell? ⟨gb222, 2, none⟩ = some (.slice A0_2 l0_2.length c0_2) := (blk_cell BK222.out 2).trans rfl; have hcz62_3 : w61.cell? ⟨gb222, 3, none⟩ = some (.slice A0_3 l0_3.length c0_3) := (blk_cell BK222.out 3).trans rfl; have hcz62_4 : w61.cell? ⟨gb222, 4, none⟩ = some (.int .i64 a0_4) := (blk_cell BK222.out 4).trans rfl; have hcz62_5 : w61.cell? ⟨gb222, 5, none⟩ = some (.int .i64 a0_5) := (blk_cell BK222.out 5).trans rfl; have hcz62_6 : w61.cell? ⟨gb222, 6, none⟩ = some (.string a0_6) := (blk_cell BK222.out 6).trans rfl; have hcz62_7 : w61.cell? ⟨gb222, 7, none⟩ = some (.slice A0_7 l0_7.length c0_7) := (blk_cell BK222.out 7).trans rfl; have hcz62_8 : w61.cell? ⟨gb222, 8, none⟩ = some (.int .i64 a0_8) := (blk_cell BK222.out 8).trans rfl; have hcz62_9 : w61.cell? ⟨gb222, 9, none⟩ = some (.int .i64 a0_9) := (blk_cell BK222.out 9).trans rfl; have hfz62_0 := blk_frozen BK222.out 0; have hfz62_1 := blk_frozen BK222.out 1; have hfz62_2 := blk_frozen BK222.out 2; have hfz62_3 := blk_frozen BK222.out 3; have hfz62_4 := blk_frozen BK222.out 4; have hfz62_5 := blk_frozen BK222.out 5; have hfz62_6 := blk_frozen BK222.out 6; have hfz62_7 := blk_frozen BK222.out 7; have hfz62_8 := blk_frozen BK222.out 8; have hfz62_9 := blk_frozen BK222.out 9) | ((with_reducible refine gate_callee (f := 42) rfl ?_); refine goesL_ (some 31) rfl rfl Try.func42 (by kernel_rfl) rfl #[.slice A0_2 l0_2.length c0_2] rfl (by (try simp only [List.map_toArray, List.map_cons, List.map_nil]); (rfl)) ?_; (with_reducible refine (notaryref36_List.calls kj9 _ _ l0_2 t232 t233 _ ?side1 ?side2 A15.out).mono ?_); (case side1 => exact Kd.C_below HR0_2.out HB.out); (case side2 => exact HC0_2.out); rintro e w63 ⟨v234, rfl, ho0, hb⟩; refine ⟨_, rfl, ?_⟩; have n0_ := Aside0.mk (Kd.R_elder' (by exact HO231.out) (Kd.R_base ho0) hb); have n1_ := Aside0.mk (Kd.R_lower (Kd.R_new' ho0 (Kd.R_lt (by exact HO231.out))) (below_size HB.out)); have n2_ := Aside0.mk (blk_below (g := gb222) (o := .cells #[.int .i64 a0_0, .bool a0_1, .slice A0_2 l0_2.length c0_2, .slice A0_3 l0_3.length c0_3, .int .i64 a0_4, .int .i64 a0_5, .string a0_6, .slice A0_7 l0_7.length c0_7, .int .i64 a0_8, .int .i64 a0_9] 39 (0, 0)) (by exact BK222.out) hb); have n3_ := Aside0.mk (below_step HB.out hb); clear HO231; clear BK222; clear HB; have HO231 := n0_; have HO235 := n1_; have BK222 := n2_; have HB := n3_; clear n0_ n1_ n2_ n3_; (try clear hb); (try clear ho0)) | ((with_reducible refine gate_dst (N := 36) rfl ?_); refine Kd.R_lit (Kd.int .u8) _ 5 ?hg (N := 36) ?hd (xs := ([] : List Int)) (inner := []) (ok := fun _ => True) (okp := fun _ => True) ?hr ?hp (fun _ hk => hk) trivial (Below.refl _ _) (Nat.le_refl _) (by simp) ?_; (case hd => rfl); (case hg => rfl); (case hr => (go_simp; done)); (case hp => exact (Reps.none _ _)); intro v237 w64 ho65 hb hg_ hnew_; clear hg_ hnew_; (rw [← Ny236.out] at ho65); have n0_ := Aside0.mk (Kd.R_elder' (by exact HO231.out) (Kd.R_base ho65) hb); have n1_ := Aside0.mk (Kd.R_elder' (by exact HO235.out) (Kd.R_base ho65) hb); have n2_ := Aside0.mk (Kd.R_lower (Kd.R_new' (Kd.R_new' ho65 (Kd.R_lt (by exact HO231.out))) (Kd.R_lt (by exact HO235.out))) (below_size HB.out)); have n3_ := Aside0.mk (blk_below (g := gb222) (o := .cells #[.int .i64 a0_0, .bool a0_1, .slice A0_2 l0_2.length c0_2, .slice A0_3 l0_3.length c0_3, .int .i64 a0_4, .int .i64 a0_5, .string a0_6, .slice A0_7 l0_7.length c0_7, .int .i64 a0_8, .int .i64 a0_9] 39 (0, 0)) (by exact BK222.out) hb); have n4_ := Aside0.mk (below_step HB.out hb); clear HO231; clear HO235; clear BK222; clear HB; have HO231 := n0_; have HO235 := n1_; have HO238 := n2_; have BK222 := n3_; have HB := n4_; clear n0_ n1_ n2_ n3_ n4_; clear hb ho65))
    go_ret2
    exact ⟨_, by (rfl), by exact Kd.R_mono HO238.out (fun _ hk => trivial), HB.out⟩
  rw [if_pos c16] at H
  have c16b0 : (t233 == 0) = true := beq_iff_eq.mpr c16
  have c16b1 : (t233 != 0) = false := bne_eq_false_iff_eq.mpr c16
  clear c16
  replace H := Option.bind_eq_some_iff.mp H
  obtain ⟨⟨t239, t240⟩, A170, H⟩ := H
  replace H : (if t240 = 0 then ((notaryref36_Term.f kj9 a0_4 a0_5 a0_6 l0_7 a0_8 a0_9 1).bind fun bt243 => (if bt243.2 = 0 then (if y229.length + t232.length < 140737488355328 then ((some (y229 ++ t232 : List Int)).bind fun y247 => (if y247.length + t239.length < 140737488355328 then ((some (y247 ++ t239 : List Int)).bind fun y250 => (if y250.length + bt243.1.length < 140737488355328 then (some ((y250 ++ bt243.1), 0)) else (none))) else (none))) else (none)) else (some (([] : List Int), bt243.2)))) else (some (([] : List Int), t240))) = some (r1, r2) := H
  have A17 := Aside0.mk A170
  clear A170
  by_cases c18 : t240 = 0
  rotate_left
  · rw [if_neg c18] at H
    have c18b0 : (t240 == 0) = false := beq_eq_false_iff_ne.mpr c18
    have c18b1 : (t240 != 0) = true := bne_iff_ne.mpr c18
    obtain ⟨y259, hy259⟩ : ∃ y_ : List Int, y_ = ([] : List Int) := ⟨_, rfl⟩
    replace H : (some (y259, t240)) = some (r1, r2) := by (rw [hy259]; with_reducible exact H)
    have Ny259 := Aside0.mk hy259
    clear hy259
    simp only [Option.some.injEq, Prod.mk.injEq] at H
    obtain ⟨rfl, rfl⟩ := H
    have hcz50_0 : wc.cell? ⟨gb222, 0, none⟩ = some (.int .i64 a0_0) := (blk_cell BK222.out 0).trans rfl
    have hcz50_1 : wc.cell? ⟨gb222, 1, none⟩ = some (.bool a0_1) := (blk_cell BK222.out 1).trans rfl
    have hcz50_2 : wc.cell? ⟨gb222, 2, none⟩ = some (.slice A0_2 l0_2.length c0_2) := (blk_cell BK222.out 2).trans rfl
    have hcz50_3 : wc.cell? ⟨gb222, 3, none⟩ = some (.slice A0_3 l0_3.length c0_3) := (blk_cell BK222.out 3).trans rfl
    have hcz50_4 : wc.cell? ⟨gb222, 4, none⟩ = some (.int .i64 a0_4) := (blk_cell BK222.out 4).trans rfl
    have hcz50_5 : wc.cell? ⟨gb222, 5, none⟩ = some (.int .i64 a0_5) := (blk_cell BK222.out 5).trans rfl
    have hcz50_6 : wc.cell? ⟨gb222, 6, none⟩ = some (.string a0_6) := (blk_cell BK222.out 6).trans rfl
    have hcz50_7 : wc.cell? ⟨gb222, 7, none⟩ = some (.slice A0_7 l0_7.length c0_7) := (blk_cell BK222.out 7).trans rfl
    have hcz50_8 : wc.cell? ⟨gb222, 8, none⟩ = some (.int .i64 a0_8) := (blk_cell BK222.out 8).trans rfl
    have hcz50_9 : wc.cell? ⟨gb222, 9, none⟩ = some (.int .i64 a0_9) := (blk_cell BK222.out 9).trans rfl
    have hfz50_0 := blk_frozen BK222.out 0
    have hfz50_1 := blk_frozen BK222.out 1
    have hfz50_2 := blk_frozen BK222.out 2
    have hfz50_3 := blk_frozen BK222.out 3
    have hfz50_4 := blk_frozen BK222.out 4
    have hfz50_5 := blk_frozen BK222.out 5
    have hfz50_6 := blk_frozen BK222.out 6
    have hfz50_7 := blk_frozen BK222.out 7
    have hfz50_8 := blk_frozen BK222.out 8
    have hfz50_9 := blk_frozen BK222.out 9
    go_wp2_with (first | ((with_reducible refine gate_callee (f := 34) rfl ?_); refine goesL_ (some 24) rfl rfl Try.func34 (by kernel_rfl) rfl #[.int .u64 (IntKind.u64.wrap (a0_0))] rfl (by (try simp only [List.map_toArray, List.map_cons, List.map_nil]); (rfl)) ?_; (with_reducible refine (notaryref01_Bytes.calls kj9 (IntKind.u64.wrap (a0_0)) t226 _ A13.out).mono ?_); rintro e w51 ⟨v227, rfl, ho0, hb⟩; refine ⟨_, rfl, ?_⟩; have n0_ := Aside0.mk (Kd.R_lower ho0 (below_size HB.out)); have n1_ := Aside0.mk (blk_below (g := gb222) (o := .cells #[.int .i64 a0_0, .bool a0_1, .slice A0_2 l0_2.length c0_2, .slice A0_3 l0_3.length c0_3, .int .i64 a0_4, .int .i64 a0_5, .string a0_6, .slice A0_7 l0_7.length c0_7, .int .i64 a0_8, .int .i64 a0_9] 39 (0, 0)) (by exact BK222.out) hb); have n2_ := Aside0.mk (below_step HB.out hb); clear BK222; clear HB; have HO228 := n0_; have BK222 := n1_; have HB := n2_; clear n0_ n1_ n2_; (try clear hb); (try clear ho0)) | ((with_reducible refine gate_builtin (b := .append) (xs := #[.tmp 24, .tmp 26]) rfl ?_); at_builtin; refine Kd.R_append (Kd.int .u8) (w0 := w) w.heap.size rfl (.tmp 24) (.tmp 26) 22 5 (.int .u8 0) 1 rfl Try.underlying22 info5 rfl (by decide) (by omega) v227 t226 x4_9 [.int .u8 x4_9] (fun _ => True) (fun _ => False) rfl rfl ?aP (fun _ hk => hk.elim) ?aF ?aO ?aB ?aS ?aL ?_; (case aP => exact rfl); (case aB => exact HB.out); (case aF => exact (fun _ _ => trivial)); (case aO => exact (by exact HO228.out)); (case aS => exact (below_size HB.out)); (case aL => have := LMc14.out; omega); intro v230 w52 ho hb hg hat; rw [← Ny229.out] at ho; have n0_ := Aside0.mk (blk_grown (g := gb222) (o := .cells #[.int .i64 a0_0, .bool a0_1, .slice A0_2 l0_2.length c0_2, .slice A0_3 l0_3.length c0_3, .int .i64 a0_4, .int .i64 a0_5, .string a0_6, .slice A0_7 l0_7.length c0_7, .int .i64 a0_8, .int .i64 a0_9] 39 (0, 0)) (by exact BK222.out) hg (Kd.R_ne HO228.out BK222.out (by decide))); have n1_ := Aside0.mk (hb); have n2_ := Aside0.mk (ho); clear BK222; clear HB; clear HO228; have BK222 := n0_; have HB := n1_; have HO231 := n2_; clear n0_ n1_ n2_; clear ho hb hg hat; have hcz53_0 : w52.cell? ⟨gb222, 0, none⟩ = some (.int .i64 a0_0) := (blk_cell BK222.out 0).trans rfl; have hcz53_1 : w52.cell? ⟨gb222, 1, none⟩ = some (.bool a0_1) := (blk_cell BK222.out 1).trans rfl; have hcz53_2 : w52.cell? ⟨gb222, 2, none⟩ = some (.slice A0_2 l0_2.length c0_2) := (blk_cell BK222.out 2).trans rfl; have hcz53_3 : w52.cell? ⟨gb222, 3, none⟩ = some (.slice A0_3 l0_3.length c0_3) := (blk_cell BK222.out 3).trans rfl; have hcz53_4 : w52.cell? ⟨gb222, 4, none⟩ = some (.int .i64 a0_4) := (blk_cell BK222.out 4).trans rfl; have hcz53_5 : w52.cell? ⟨gb222, 5, none⟩ = some (.int .i64 a0_5) := (blk_cell BK222.out 5).trans rfl; have hcz53_6 : w52.cell? ⟨gb222, 6, none⟩ = some (.string a0_6) := (blk_cell BK222.out 6).trans rfl; have hcz53_7 : w52.cell? ⟨gb222, 7, none⟩ = some (.slice A0_7 l0_7.length c0_7) := (blk_cell BK222.out 7).trans rfl; have hcz53_8 : w52.cell? ⟨gb222, 8, none⟩ = some (.int .i64 a0_8) := (blk_cell BK222.out 8).trans rfl; have hcz53_9 : w52.cell? ⟨gb222, 9, none⟩ = some (.int .i64 a0_9) := (blk_cell BK222.out 9).trans rfl; have hfz53_0 := blk_frozen BK222.out 0; have hfz53_1 := blk_frozen BK222.out 1; have hfz53_2 := blk_frozen BK222.out 2; have hfz53_3 := blk_frozen BK222.out 3; have hfz53_4 := blk_frozen BK222.out 4; have hfz53_5 := blk_frozen BK222.out 5; have hfz53_6 := blk_frozen BK222.out 6; have hfz53_7 := blk_frozen BK222.out 7; have hfz53_8 := blk_frozen BK222.out 8; have hfz53_9 := blk_frozen BK222.out 9) | ((with_reducible refine gate_callee (f := 42) rfl ?_); refine goesL_ (some 31) rfl rfl Try.func42 (by kernel_rfl) rfl #[.slice A0_2 l0_2.length c0_2] rfl (by (try simp only [List.map_toArray, List.map_cons, List.map_nil]); (rfl)) ?_; (with_reducible refine (notaryref36_List.calls kj9 _ _ l0_2 t232 t233 _ ?side1 ?side2 A15.out).mono ?_); (case side1 => exact Kd.C_below HR0_2.out HB.out); (case side2 => exact HC0_2.out); rintro e w54 ⟨v234, rfl, ho0, hb⟩; refine ⟨_, rfl, ?_⟩; have n0_ := Aside0.mk (Kd.R_elder' (by exact HO231.out) (Kd.R_base ho0) hb); have n1_ := Aside0.mk (Kd.R_lower (Kd.R_new' ho0 (Kd.R_lt (by exact HO231.out))) (below_size HB.out)); have n2_ := Aside0.mk (blk_below (g := gb222) (o := .cells #[.int .i64 a0_0, .bool a0_1, .slice A0_2 l0_2.length c0_2, .slice A0_3 l0_3.length c0_3, .int .i64 a0_4, .int .i64 a0_5, .string a0_6, .slice A0_7 l0_7.length c0_7, .int .i64 a0_8, .int .i64 a0_9] 39 (0, 0)) (by exact BK222.out) hb); have n3_ := Aside0.mk (below_step HB.out hb); clear HO231; clear BK222; clear HB; have HO231 := n0_; have HO235 := n1_; have BK222 := n2_; have HB := n3_; clear n0_ n1_ n2_ n3_; (try clear hb); (try clear ho0); have hcz55_0 : w54.cell? ⟨gb222, 0, none⟩ = some (.int .i64 a0_0) := (blk_cell BK222.out 0).trans rfl; have hcz55_1 : w54.cell? ⟨gb222, 1, none⟩ = some (.bool a0_1) := (blk_cell BK222.out 1).trans rfl; have hcz55_2 : w54.cell? ⟨gb222, 2, none⟩ = some (.slice A0_2 l0_2.length c0_2) := (blk_cell BK222.out 2).trans rfl; have hcz55_3 : w54.cell? ⟨gb222, 3, none⟩ = some (.slice A0_3 l0_3.length c0_3) := (blk_cell BK222.out 3).trans rfl; have hcz55_4 : w54.cell? ⟨gb222, 4, none⟩ = some (.int .i64 a0_4) := (blk_cell BK222.out 4).trans rfl; have hcz55_5 : w54.cell? ⟨gb222, 5, none⟩ = some (.int .i64 a0_5) := (blk_cell BK222.out 5).trans rfl; have hcz55_6 : w54.cell? ⟨gb222, 6, none⟩ = some (.string a0_6) := (blk_cell BK222.out 6).trans rfl; have hcz55_7 : w54.cell? ⟨gb222, 7, none⟩ = some (.slice A0_7 l0_7.length c0_7) := (blk_cell BK222.out 7).trans rfl; have hcz55_8 : w54.cell? ⟨gb222, 8, none⟩ = some (.int .i64 a0_8) := (blk_cell BK222.out 8).trans rfl; have hcz55_9 : w54.cell? ⟨gb222, 9, none⟩ = some (.int .i64 a0_9) := (blk_cell BK222.out 9).trans rfl; have hfz55_0 := blk_frozen BK222.out 0; have hfz55_1 := blk_frozen BK222.out 1; have hfz55_2 := blk_frozen BK222.out 2; have hfz55_3 := blk_frozen BK222.out 3; have hfz55_4 := blk_frozen BK222.out 4; have hfz55_5 := blk_frozen BK222.out 5; have hfz55_6 := blk_frozen BK222.out 6; have hfz55_7 := blk_frozen BK222.out 7; have hfz55_8 := blk_frozen BK222.out 8; have hfz55_9 := blk_frozen BK222.out 9) | ((with_reducible refine gate_callee (f := 42) rfl ?_); refine goesL_ (some 41) rfl rfl Try.func42 (by kernel_rfl) rfl #[.slice A0_3 l0_3.length c0_3] rfl (by (try simp only [List.map_toArray, List.map_cons, List.map_nil]); (rfl)) ?_; (with_reducible refine (notaryref36_List.calls kj9 _ _ l0_3 t239 t240 _ ?side1 ?side2 A17.out).mono ?_); (case side1 => exact Kd.C_below HR0_3.out HB.out); (case side2 => exact HC0_3.out); rintro e w56 ⟨v241, rfl, ho0, hb⟩; refine ⟨_, rfl, ?_⟩; have n0_ := Aside0.mk (Kd.R_elder' (by exact HO231.out) (Kd.R_base ho0) hb); have n1_ := Aside0.mk (Kd.R_elder' (by exact HO235.out) (Kd.R_base ho0) hb); have n2_ := Aside0.mk (Kd.R_lower (Kd.R_new' (Kd.R_new' ho0 (Kd.R_lt (by exact HO231.out))) (Kd.R_lt (by exact HO235.out))) (below_size HB.out)); have n3_ := Aside0.mk (blk_below (g := gb222) (o := .cells #[.int .i64 a0_0, .bool a0_1, .slice A0_2 l0_2.length c0_2, .slice A0_3 l0_3.length c0_3, .int .i64 a0_4, .int .i64 a0_5, .string a0_6, .slice A0_7 l0_7.length c0_7, .int .i64 a0_8, .int .i64 a0_9] 39 (0, 0)) (by exact BK222.out) hb); have n4_ := Aside0.mk (below_step HB.out hb); clear HO231; clear HO235; clear BK222; clear HB; have HO231 := n0_; have HO235 := n1_; have HO242 := n2_; have BK222 := n3_; have HB := n4_; clear n0_ n1_ n2_ n3_ n4_; (try clear hb); (try clear ho0)) | ((with_reducible refine gate_dst (N := 46) rfl ?_); refine Kd.R_lit (Kd.int .u8) _ 5 ?hg (N := 46) ?hd (xs := ([] : List Int)) (inner := []) (ok := fun _ => True) (okp := fun _ => True) ?hr ?hp (fun _ hk => hk) trivial (Below.refl _ _) (Nat.le_refl _) (by simp) ?_; (case hd => rfl); (case hg => rfl); (case hr => (go_simp; done)); (case hp => exact (Reps.none _ _)); intro v260 w57 ho58 hb hg_ hnew_; clear hg_ hnew_; (rw [← Ny259.out] at ho58); have n0_ := Aside0.mk (Kd.R_elder' (by exact HO231.out) (Kd.R_base ho58) hb); have n1_ := Aside0.mk (Kd.R_elder' (by exact HO235.out) (Kd.R_base ho58) hb); have n2_ := Aside0.mk (Kd.R_elder' (by exact HO242.out) (Kd.R_base ho58) hb); have n3_ := Aside0.mk (Kd.R_lower (Kd.R_new' (Kd.R_new' (Kd.R_new' ho58 (Kd.R_lt (by exact HO231.out))) (Kd.R_lt (by exact HO235.out))) (Kd.R_lt (by exact HO242.out))) (below_size HB.out)); have n4_ := Aside0.mk (blk_below (g := gb222) (o := .cells #[.int .i64 a0_0, .bool a0_1, .slice A0_2 l0_2.length c0_2, .slice A0_3 l0_3.length c0_3, .int .i64 a0_4, .int .i64 a0_5, .string a0_6, .slice A0_7 l0_7.length c0_7, .int .i64 a0_8, .int .i64 a0_9] 39 (0, 0)) (by exact BK222.out) hb); have n5_ := Aside0.mk (below_step HB.out hb); clear HO231; clear HO235; clear HO242; clear BK222; clear HB; have HO231 := n0_; have HO235 := n1_; have HO242 := n2_; have HO261 := n3_; have BK222 := n4_; have HB := n5_; clear n0_ n1_ n2_ n3_ n4_ n5_; clear hb ho58))
    go_ret2
    exact ⟨_, by (rfl), by exact Kd.R_mono HO261.out (fun _ hk => trivial), HB.out⟩
  rw [if_pos c18] at H
  have c18b0 : (t240 == 0) = true := beq_iff_eq.mpr c18
  have c18b1 : (t240 != 0) = false := bne_eq_false_iff_eq.mpr c18
  clear c18
  replace H := Option.bind_eq_some_iff.mp H
  obtain ⟨⟨t243, t246⟩, A190, H⟩ := H
  replace H : (if t246 = 0 then (if y229.length + t232.length < 140737488355328 then ((some (y229 ++ t232 : List Int)).bind fun y247 => (if y247.length + t239.length < 140737488355328 then ((some (y247 ++ t239 : List Int)).bind fun y250 => (if y250.length + t243.length < 140737488355328 then (some ((y250 ++ t243), 0)) else (none))) else (none))) else (none)) else (some (([] : List Int), t246))) = some (r1, r2) := H
  have A19 := Aside0.mk A190
  clear A190
  by_cases c20 : t246 = 0
  rotate_left
  · rw [if_neg c20] at H
    have c20b0 : (t246 == 0) = false := beq_eq_false_iff_ne.mpr c20
    have c20b1 : (t246 != 0) = true := bne_iff_ne.mpr c20
    obtain ⟨y256, hy256⟩ : ∃ y_ : List Int, y_ = ([] : List Int) := ⟨_, rfl⟩
    replace H : (some (y256, t246)) = some (r1, r2) := by (rw [hy256]; with_reducible exact H)
    have Ny256 := Aside0.mk hy256
    clear hy256
    simp only [Option.some.injEq, Prod.mk.injEq] at H
    obtain ⟨rfl, rfl⟩ := H
    have hcz39_0 : wc.cell? ⟨gb222, 0, none⟩ = some (.int .i64 a0_0) := (blk_cell BK222.out 0).trans rfl
    have hcz39_1 : wc.cell? ⟨gb222, 1, none⟩ = some (.bool a0_1) := (blk_cell BK222.out 1).trans rfl
    have hcz39_2 : wc.cell? ⟨gb222, 2, none⟩ = some (.slice A0_2 l0_2.length c0_2) := (blk_cell BK222.out 2).trans rfl
    have hcz39_3 : wc.cell? ⟨gb222, 3, none⟩ = some (.slice A0_3 l0_3.length c0_3) := (blk_cell BK222.out 3).trans rfl
    have hcz39_4 : wc.cell? ⟨gb222, 4, none⟩ = some (.int .i64 a0_4) := (blk_cell BK222.out 4).trans rfl
    have hcz39_5 : wc.cell? ⟨gb222, 5, none⟩ = some (.int .i64 a0_5) := (blk_cell BK222.out 5).trans rfl
    have hcz39_6 : wc.cell? ⟨gb222, 6, none⟩ = some (.string a0_6) := (blk_cell BK222.out 6).trans rfl
    have hcz39_7 : wc.cell? ⟨gb222, 7, none⟩ = some (.slice A0_7 l0_7.length c0_7) := (blk_cell BK222.out 7).trans rfl
    have hcz39_8 : wc.cell? ⟨gb222, 8, none⟩ = some (.int .i64 a0_8) := (blk_cell BK222.out 8).trans rfl
    have hcz39_9 : wc.cell? ⟨gb222, 9, none⟩ = some (.int .i64 a0_9) := (blk_cell BK222.out 9).trans rfl
    have hfz39_0 := blk_frozen BK222.out 0
    have hfz39_1 := blk_frozen BK222.out 1
    have hfz39_2 := blk_frozen BK222.out 2
    have hfz39_3 := blk_frozen BK222.out 3
    have hfz39_4 := blk_frozen BK222.out 4
    have hfz39_5 := blk_frozen BK222.out 5
    have hfz39_6 := blk_frozen BK222.out 6
    have hfz39_7 := blk_frozen BK222.out 7
    have hfz39_8 := blk_frozen BK222.out 8
    have hfz39_9 := blk_frozen BK222.out 9
    go_wp2_with (first | ((with_reducible refine gate_callee (f := 34) rfl ?_); refine goesL_ (some 24) rfl rfl Try.func34 (by kernel_rfl) rfl #[.int .u64 (IntKind.u64.wrap (a0_0))] rfl (by (try simp only [List.map_toArray, List.map_cons, List.map_nil]); (rfl)) ?_; (with_reducible refine (notaryref01_Bytes.calls kj9 (IntKind.u64.wrap (a0_0)) t226 _ A13.out).mono ?_); rintro e w40 ⟨v227, rfl, ho0, hb⟩; refine ⟨_, rfl, ?_⟩; have n0_ := Aside0.mk (Kd.R_lower ho0 (below_size HB.out)); have n1_ := Aside0.mk (blk_below (g := gb222) (o := .cells #[.int .i64 a0_0, .bool a0_1, .slice A0_2 l0_2.length c0_2, .slice A0_3 l0_3.length c0_3, .int .i64 a0_4, .int .i64 a0_5, .string a0_6, .slice A0_7 l0_7.length c0_7, .int .i64 a0_8, .int .i64 a0_9] 39 (0, 0)) (by exact BK222.out) hb); have n2_ := Aside0.mk (below_step HB.out hb); clear BK222; clear HB; have HO228 := n0_; have BK222 := n1_; have HB := n2_; clear n0_ n1_ n2_; (try clear hb); (try clear ho0)) | ((with_reducible refine gate_builtin (b := .append) (xs := #[.tmp 24, .tmp 26]) rfl ?_); at_builtin; refine Kd.R_append (Kd.int .u8) (w0 := w) w.heap.size rfl (.tmp 24) (.tmp 26) 22 5 (.int .u8 0) 1 rfl Try.underlying22 info5 rfl (by decide) (by omega) v227 t226 x4_9 [.int .u8 x4_9] (fun _ => True) (fun _ => False) rfl rfl ?aP (fun _ hk => hk.elim) ?aF ?aO ?aB ?aS ?aL ?_; (case aP => exact rfl); (case aB => exact HB.out); (case aF => exact (fun _ _ => trivial)); (case aO => exact (by exact HO228.out)); (case aS => exact (below_size HB.out)); (case aL => have := LMc14.out; omega); intro v230 w41 ho hb hg hat; rw [← Ny229.out] at ho; have n0_ := Aside0.mk (blk_grown (g := gb222) (o := .cells #[.int .i64 a0_0, .bool a0_1, .slice A0_2 l0_2.length c0_2, .slice A0_3 l0_3.length c0_3, .int .i64 a0_4, .int .i64 a0_5, .string a0_6, .slice A0_7 l0_7.length c0_7, .int .i64 a0_8, .int .i64 a0_9] 39 (0, 0)) (by exact BK222.out) hg (Kd.R_ne HO228.out BK222.out (by decide))); have n1_ := Aside0.mk (hb); have n2_ := Aside0.mk (ho); clear BK222; clear HB; clear HO228; have BK222 := n0_; have HB := n1_; have HO231 := n2_; clear n0_ n1_ n2_; clear ho hb hg hat; have hcz42_0 : w41.cell? ⟨gb222, 0, none⟩ = some (.int .i64 a0_0) := (blk_cell BK222.out 0).trans rfl; have hcz42_1 : w41.cell? ⟨gb222, 1, none⟩ = some (.bool a0_1) := (blk_cell BK222.out 1).trans rfl; have hcz42_2 : w41.cell? ⟨gb222, 2, none⟩ = some (.slice A0_2 l0_2.length c0_2) := (blk_cell BK222.out 2).trans rfl; have hcz42_3 : w41.cell? ⟨gb222, 3, none⟩ = some (.slice A0_3 l0_3.length c0_3) := (blk_cell BK222.out 3).trans rfl; have hcz42_4 : w41.cell? ⟨gb222, 4, none⟩ = some (.int .i64 a0_4) := (blk_cell BK222.out 4).trans rfl; have hcz42_5 : w41.cell? ⟨gb222, 5, none⟩ = some (.int .i64 a0_5) := (blk_cell BK222.out 5).trans rfl; have hcz42_6 : w41.cell? ⟨gb222, 6, none⟩ = some (.string a0_6) := (blk_cell BK222.out 6).trans rfl; have hcz42_7 : w41.cell? ⟨gb222, 7, none⟩ = some (.slice A0_7 l0_7.length c0_7) := (blk_cell BK222.out 7).trans rfl; have hcz42_8 : w41.cell? ⟨gb222, 8, none⟩ = some (.int .i64 a0_8) := (blk_cell BK222.out 8).trans rfl; have hcz42_9 : w41.cell? ⟨gb222, 9, none⟩ = some (.int .i64 a0_9) := (blk_cell BK222.out 9).trans rfl; have hfz42_0 := blk_frozen BK222.out 0; have hfz42_1 := blk_frozen BK222.out 1; have hfz42_2 := blk_frozen BK222.out 2; have hfz42_3 := blk_frozen BK222.out 3; have hfz42_4 := blk_frozen BK222.out 4; have hfz42_5 := blk_frozen BK222.out 5; have hfz42_6 := blk_frozen BK222.out 6; have hfz42_7 := blk_frozen BK222.out 7; have hfz42_8 := blk_frozen BK222.out 8; have hfz42_9 := blk_frozen BK222.out 9) | ((with_reducible refine gate_callee (f := 42) rfl ?_); refine goesL_ (some 31) rfl rfl Try.func42 (by kernel_rfl) rfl #[.slice A0_2 l0_2.length c0_2] rfl (by (try simp only [List.map_toArray, List.map_cons, List.map_nil]); (rfl)) ?_; (with_reducible refine (notaryref36_List.calls kj9 _ _ l0_2 t232 t233 _ ?side1 ?side2 A15.out).mono ?_); (case side1 => exact Kd.C_below HR0_2.out HB.out); (case side2 => exact HC0_2.out); rintro e w43 ⟨v234, rfl, ho0, hb⟩; refine ⟨_, rfl, ?_⟩; have n0_ := Aside0.mk (Kd.R_elder' (by exact HO231.out) (Kd.R_base ho0) hb); have n1_ := Aside0.mk (Kd.R_lower (Kd.R_new' ho0 (Kd.R_lt (by exact HO231.out))) (below_size HB.out)); have n2_ := Aside0.mk (blk_below (g := gb222) (o := .cells #[.int .i64 a0_0, .bool a0_1, .slice A0_2 l0_2.length c0_2, .slice A0_3 l0_3.length c0_3, .int .i64 a0_4, .int .i64 a0_5, .string a0_6, .slice A0_7 l0_7.length c0_7, .int .i64 a0_8, .int .i64 a0_9] 39 (0, 0)) (by exact BK222.out) hb); have n3_ := Aside0.mk (below_step HB.out hb); clear HO231; clear BK222; clear HB; have HO231 := n0_; have HO235 := n1_; have BK222 := n2_; have HB := n3_; clear n0_ n1_ n2_ n3_; (try clear hb); (try clear ho0); have hcz44_0 : w43.cell? ⟨gb222, 0, none⟩ = some (.int .i64 a0_0) := (blk_cell BK222.out 0).trans rfl; have hcz44_1 : w43.cell? ⟨gb222, 1, none⟩ = some (.bool a0_1) := (blk_cell BK222.out 1).trans rfl; have hcz44_2 : w43.cell? ⟨gb222, 2, none⟩ = some (.slice A0_2 l0_2.length c0_2) := (blk_cell BK222.out 2).trans rfl; have hcz44_3 : w43.cell? ⟨gb222, 3, none⟩ = some (.slice A0_3 l0_3.length c0_3) := (blk_cell BK222.out 3).trans rfl; have hcz44_4 : w43.cell? ⟨gb222, 4, none⟩ = some (.int .i64 a0_4) := (blk_cell BK222.out 4).trans rfl; have hcz44_5 : w43.cell? ⟨gb222, 5, none⟩ = some (.int .i64 a0_5) := (blk_cell BK222.out 5).trans rfl; have hcz44_6 : w43.cell? ⟨gb222, 6, none⟩ = some (.string a0_6) := (blk_cell BK222.out 6).trans rfl; have hcz44_7 : w43.cell? ⟨gb222, 7, none⟩ = some (.slice A0_7 l0_7.length c0_7) := (blk_cell BK222.out 7).trans rfl; have hcz44_8 : w43.cell? ⟨gb222, 8, none⟩ = some (.int .i64 a0_8) := (blk_cell BK222.out 8).trans rfl; have hcz44_9 : w43.cell? ⟨gb222, 9, none⟩ = some (.int .i64 a0_9) := (blk_cell BK222.out 9).trans rfl; have hfz44_0 := blk_frozen BK222.out 0; have hfz44_1 := blk_frozen BK222.out 1; have hfz44_2 := blk_frozen BK222.out 2; have hfz44_3 := blk_frozen BK222.out 3; have hfz44_4 := blk_frozen BK222.out 4; have hfz44_5 := blk_frozen BK222.out 5; have hfz44_6 := blk_frozen BK222.out 6; have hfz44_7 := blk_frozen BK222.out 7; have hfz44_8 := blk_frozen BK222.out 8; have hfz44_9 := blk_frozen BK222.out 9) | ((with_reducible refine gate_callee (f := 42) rfl ?_); refine goesL_ (some 41) rfl rfl Try.func42 (by kernel_rfl) rfl #[.slice A0_3 l0_3.length c0_3] rfl (by (try simp only [List.map_toArray, List.map_cons, List.map_nil]); (rfl)) ?_; (with_reducible refine (notaryref36_List.calls kj9 _ _ l0_3 t239 t240 _ ?side1 ?side2 A17.out).mono ?_); (case side1 => exact Kd.C_below HR0_3.out HB.out); (case side2 => exact HC0_3.out); rintro e w45 ⟨v241, rfl, ho0, hb⟩; refine ⟨_, rfl, ?_⟩; have n0_ := Aside0.mk (Kd.R_elder' (by exact HO231.out) (Kd.R_base ho0) hb); have n1_ := Aside0.mk (Kd.R_elder' (by exact HO235.out) (Kd.R_base ho0) hb); have n2_ := Aside0.mk (Kd.R_lower (Kd.R_new' (Kd.R_new' ho0 (Kd.R_lt (by exact HO231.out))) (Kd.R_lt (by exact HO235.out))) (below_size HB.out)); have n3_ := Aside0.mk (blk_below (g := gb222) (o := .cells #[.int .i64 a0_0, .bool a0_1, .slice A0_2 l0_2.length c0_2, .slice A0_3 l0_3.length c0_3, .int .i64 a0_4, .int .i64 a0_5, .string a0_6, .slice A0_7 l0_7.length c0_7, .int .i64 a0_8, .int .i64 a0_9] 39 (0, 0)) (by exact BK222.out) hb); have n4_ := Aside0.mk (below_step HB.out hb); clear HO231; clear HO235; clear BK222; clear HB; have HO231 := n0_; have HO235 := n1_; have HO242 := n2_; have BK222 := n3_; have HB := n4_; clear n0_ n1_ n2_ n3_ n4_; (try clear hb); (try clear ho0); have hcz46_0 : w45.cell? ⟨gb222, 0, none⟩ = some (.int .i64 a0_0) := (blk_cell BK222.out 0).trans rfl; have hcz46_1 : w45.cell? ⟨gb222, 1, none⟩ = some (.bool a0_1) := (blk_cell BK222.out 1).trans rfl; have hcz46_2 : w45.cell? ⟨gb222, 2, none⟩ = some (.slice A0_2 l0_2.length c0_2) := (blk_cell BK222.out 2).trans rfl; have hcz46_3 : w45.cell? ⟨gb222, 3, none⟩ = some (.slice A0_3 l0_3.length c0_3) := (blk_cell BK222.out 3).trans rfl; have hcz46_4 : w45.cell? ⟨gb222, 4, none⟩ = some (.int .i64 a0_4) := (blk_cell BK222.out 4).trans rfl; have hcz46_5 : w45.cell? ⟨gb222, 5, none⟩ = some (.int .i64 a0_5) := (blk_cell BK222.out 5).trans rfl; have hcz46_6 : w45.cell? ⟨gb222, 6, none⟩ = some (.string a0_6) := (blk_cell BK222.out 6).trans rfl; have hcz46_7 : w45.cell? ⟨gb222, 7, none⟩ = some (.slice A0_7 l0_7.length c0_7) := (blk_cell BK222.out 7).trans rfl; have hcz46_8 : w45.cell? ⟨gb222, 8, none⟩ = some (.int .i64 a0_8) := (blk_cell BK222.out 8).trans rfl; have hcz46_9 : w45.cell? ⟨gb222, 9, none⟩ = some (.int .i64 a0_9) := (blk_cell BK222.out 9).trans rfl; have hfz46_0 := blk_frozen BK222.out 0; have hfz46_1 := blk_frozen BK222.out 1; have hfz46_2 := blk_frozen BK222.out 2; have hfz46_3 := blk_frozen BK222.out 3; have hfz46_4 := blk_frozen BK222.out 4; have hfz46_5 := blk_frozen BK222.out 5; have hfz46_6 := blk_frozen BK222.out 6; have hfz46_7 := blk_frozen BK222.out 7; have hfz46_8 := blk_frozen BK222.out 8; have hfz46_9 := blk_frozen BK222.out 9) | ((with_reducible refine gate_callee (f := 11) rfl ?_); refine goesL_ (some 51) rfl rfl Try.func11 (by kernel_rfl) rfl #[.agg #[.int .i64 a0_4, .int .i64 a0_5, .string a0_6, .slice A0_7 l0_7.length c0_7, .int .i64 a0_8, .int .i64 a0_9], .int .i64 1] rfl (by (try simp only [List.map_toArray, List.map_cons, List.map_nil]); (rfl)) ?_; (with_reducible refine (notaryref36_Term.calls kj9 a0_4 a0_5 a0_6 _ _ l0_7 a0_8 a0_9 1 t243 t246 _ ?side1 ?side2 A19.out).mono ?_); (case side1 => exact Kd.C_below HR0_7.out HB.out); (case side2 => exact HC0_7.out); rintro e w47 ⟨v244, rfl, ho0, hb⟩; refine ⟨_, rfl, ?_⟩; have n0_ := Aside0.mk (Kd.R_elder' (by exact HO231.out) (Kd.R_base ho0) hb); have n1_ := Aside0.mk (Kd.R_elder' (by exact HO235.out) (Kd.R_base ho0) hb); have n2_ := Aside0.mk (Kd.R_elder' (by exact HO242.out) (Kd.R_base ho0) hb); have n3_ := Aside0.mk (Kd.R_lower (Kd.R_new' (Kd.R_new' (Kd.R_new' ho0 (Kd.R_lt (by exact HO231.out))) (Kd.R_lt (by exact HO235.out))) (Kd.R_lt (by exact HO242.out))) (below_size HB.out)); have n4_ := Aside0.mk (blk_below (g := gb222) (o := .cells #[.int .i64 a0_0, .bool a0_1, .slice A0_2 l0_2.length c0_2, .slice A0_3 l0_3.length c0_3, .int .i64 a0_4, .int .i64 a0_5, .string a0_6, .slice A0_7 l0_7.length c0_7, .int .i64 a0_8, .int .i64 a0_9] 39 (0, 0)) (by exact BK222.out) hb); have n5_ := Aside0.mk (below_step HB.out hb); clear HO231; clear HO235; clear HO242; clear BK222; clear HB; have HO231 := n0_; have HO235 := n1_; have HO242 := n2_; have HO245 := n3_; have BK222 := n4_; have HB := n5_; clear n0_ n1_ n2_ n3_ n4_ n5_; (try clear hb); (try clear ho0)) | ((with_reducible refine gate_dst (N := 56) rfl ?_); refine Kd.R_lit (Kd.int .u8) _ 5 ?hg (N := 56) ?hd (xs := ([] : List Int)) (inner := []) (ok := fun _ => True) (okp := fun _ => True) ?hr ?hp (fun _ hk => hk) trivial (Below.refl _ _) (Nat.le_refl _) (by simp) ?_; (case hd => rfl); (case hg => rfl); (case hr => (go_simp; done)); (case hp => exact (Reps.none _ _)); intro v257 w48 ho49 hb hg_ hnew_; clear hg_ hnew_; (rw [← Ny256.out] at ho49); have n0_ := Aside0.mk (Kd.R_elder' (by exact HO231.out) (Kd.R_base ho49) hb); have n1_ := Aside0.mk (Kd.R_elder' (by exact HO235.out) (Kd.R_base ho49) hb); have n2_ := Aside0.mk (Kd.R_elder' (by exact HO242.out) (Kd.R_base ho49) hb); have n3_ := Aside0.mk (Kd.R_elder' (by exact HO245.out) (Kd.R_base ho49) hb); have n4_ := Aside0.mk (Kd.R_lower (Kd.R_new' (Kd.R_new' (Kd.R_new' (Kd.R_new' ho49 (Kd.R_lt (by exact HO231.out))) (Kd.R_lt (by exact HO235.out))) (Kd.R_lt (by exact HO242.out))) (Kd.R_lt (by exact HO245.out))) (below_size HB.out)); have n5_ := Aside0.mk (blk_below (g := gb222) (o := .cells #[.int .i64 a0_0, .bool a0_1, .slice A0_2 l0_2.length c0_2, .slice A0_3 l0_3.length c0_3, .int .i64 a0_4, .int .i64 a0_5, .string a0_6, .slice A0_7 l0_7.length c0_7, .int .i64 a0_8, .int .i64 a0_9] 39 (0, 0)) (by exact BK222.out) hb); have n6_ := Aside0.mk (below_step HB.out hb); clear HO231; clear HO235; clear HO242; clear HO245; clear BK222; clear HB; have HO231 := n0_; have HO235 := n1_; have HO242 := n2_; have HO245 := n3_; have HO258 := n4_; have BK222 := n5_; have HB := n6_; clear n0_ n1_ n2_ n3_ n4_ n5_ n6_; clear hb ho49))
    go_ret2
    exact ⟨_, by (rfl), by exact Kd.R_mono HO258.out (fun _ hk => trivial), HB.out⟩
  rw [if_pos c20] at H
  have c20b0 : (t246 == 0) = true := beq_iff_eq.mpr c20
  have c20b1 : (t246 != 0) = false := bne_eq_false_iff_eq.mpr c20
  clear c20
  by_cases c21 : y229.length + t232.length < 140737488355328
  rotate_left
  · rw [if_neg c21] at H
    exact absurd H (by simp)
  rw [if_pos c21] at H
  have LMc21 := Aside0.mk c21
  clear c21
  obtain ⟨y247, hy247⟩ : ∃ y_ : List Int, y_ = (y229 ++ t232) := ⟨_, rfl⟩
  replace H : (if y247.length + t239.length < 140737488355328 then ((some (y247 ++ t239 : List Int)).bind fun y250 => (if y250.length + t243.length < 140737488355328 then (some ((y250 ++ t243), 0)) else (none))) else (none)) = some (r1, r2) := by ((have H2_ := (Option.bind_some _ _).symm.trans H; rw [hy247]; with_reducible exact H2_))
  have Ny247 := Aside0.mk hy247
  clear hy247
  by_cases c22 : y247.length + t239.length < 140737488355328
  rotate_left
  · rw [if_neg c22] at H
    exact absurd H (by simp)
  rw [if_pos c22] at H
  have LMc22 := Aside0.mk c22
  clear c22
  obtain ⟨y250, hy250⟩ : ∃ y_ : List Int, y_ = (y247 ++ t239) := ⟨_, rfl⟩
  replace H : (if y250.length + t243.length < 140737488355328 then (some ((y250 ++ t243), 0)) else (none)) = some (r1, r2) := by ((have H2_ := (Option.bind_some _ _).symm.trans H; rw [hy250]; with_reducible exact H2_))
  have Ny250 := Aside0.mk hy250
  clear hy250
  by_cases c23 : y250.length + t243.length < 140737488355328
  rotate_left
  · rw [if_neg c23] at H
    exact absurd H (by simp)
  rw [if_pos c23] at H
  have LMc23 := Aside0.mk c23
  clear c23
  obtain ⟨y253, hy253⟩ : ∃ y_ : List Int, y_ = (y250 ++ t243) := ⟨_, rfl⟩
  replace H : (some (y253, 0)) = some (r1, r2) := by (rw [hy253]; with_reducible exact H)
  have Ny253 := Aside0.mk hy253
  clear hy253
  simp only [Option.some.injEq, Prod.mk.injEq] at H
  obtain ⟨rfl, rfl⟩ := H
  have hcz24_0 : wc.cell? ⟨gb222, 0, none⟩ = some (.int .i64 a0_0) := (blk_cell BK222.out 0).trans rfl
  have hcz24_1 : wc.cell? ⟨gb222, 1, none⟩ = some (.bool a0_1) := (blk_cell BK222.out 1).trans rfl
  have hcz24_2 : wc.cell? ⟨gb222, 2, none⟩ = some (.slice A0_2 l0_2.length c0_2) := (blk_cell BK222.out 2).trans rfl
  have hcz24_3 : wc.cell? ⟨gb222, 3, none⟩ = some (.slice A0_3 l0_3.length c0_3) := (blk_cell BK222.out 3).trans rfl
  have hcz24_4 : wc.cell? ⟨gb222, 4, none⟩ = some (.int .i64 a0_4) := (blk_cell BK222.out 4).trans rfl
  have hcz24_5 : wc.cell? ⟨gb222, 5, none⟩ = some (.int .i64 a0_5) := (blk_cell BK222.out 5).trans rfl
  have hcz24_6 : wc.cell? ⟨gb222, 6, none⟩ = some (.string a0_6) := (blk_cell BK222.out 6).trans rfl
  have hcz24_7 : wc.cell? ⟨gb222, 7, none⟩ = some (.slice A0_7 l0_7.length c0_7) := (blk_cell BK222.out 7).trans rfl
  have hcz24_8 : wc.cell? ⟨gb222, 8, none⟩ = some (.int .i64 a0_8) := (blk_cell BK222.out 8).trans rfl
  have hcz24_9 : wc.cell? ⟨gb222, 9, none⟩ = some (.int .i64 a0_9) := (blk_cell BK222.out 9).trans rfl
  have hfz24_0 := blk_frozen BK222.out 0
  have hfz24_1 := blk_frozen BK222.out 1
  have hfz24_2 := blk_frozen BK222.out 2
  have hfz24_3 := blk_frozen BK222.out 3
  have hfz24_4 := blk_frozen BK222.out 4
  have hfz24_5 := blk_frozen BK222.out 5
  have hfz24_6 := blk_frozen BK222.out 6
  have hfz24_7 := blk_frozen BK222.out 7
  have hfz24_8 := blk_frozen BK222.out 8
  have hfz24_9 := blk_frozen BK222.out 9
  go_wp2_with (first | ((with_reducible refine gate_callee (f := 34) rfl ?_); refine goesL_ (some 24) rfl rfl Try.func34 (by kernel_rfl) rfl #[.int .u64 (IntKind.u64.wrap (a0_0))] rfl (by (try simp only [List.map_toArray, List.map_cons, List.map_nil]); (rfl)) ?_; (with_reducible refine (notaryref01_Bytes.calls kj9 (IntKind.u64.wrap (a0_0)) t226 _ A13.out).mono ?_); rintro e w25 ⟨v227, rfl, ho0, hb⟩; refine ⟨_, rfl, ?_⟩; have n0_ := Aside0.mk (Kd.R_lower ho0 (below_size HB.out)); have n1_ := Aside0.mk (blk_below (g := gb222) (o := .cells #[.int .i64 a0_0, .bool a0_1, .slice A0_2 l0_2.length c0_2, .slice A0_3 l0_3.length c0_3, .int .i64 a0_4, .int .i64 a0_5, .string a0_6, .slice A0_7 l0_7.length c0_7, .int .i64 a0_8, .int .i64 a0_9] 39 (0, 0)) (by exact BK222.out) hb); have n2_ := Aside0.mk (below_step HB.out hb); clear BK222; clear HB; have HO228 := n0_; have BK222 := n1_; have HB := n2_; clear n0_ n1_ n2_; (try clear hb); (try clear ho0)) | ((with_reducible refine gate_builtin (b := .append) (xs := #[.tmp 24, .tmp 26]) rfl ?_); at_builtin; refine Kd.R_append (Kd.int .u8) (w0 := w) w.heap.size rfl (.tmp 24) (.tmp 26) 22 5 (.int .u8 0) 1 rfl Try.underlying22 info5 rfl (by decide) (by omega) v227 t226 x4_9 [.int .u8 x4_9] (fun _ => True) (fun _ => False) rfl rfl ?aP (fun _ hk => hk.elim) ?aF ?aO ?aB ?aS ?aL ?_; (case aP => exact rfl); (case aB => exact HB.out); (case aF => exact (fun _ _ => trivial)); (case aO => exact (by exact HO228.out)); (case aS => exact (below_size HB.out)); (case aL => have := LMc14.out; omega); intro v230 w26 ho hb hg hat; rw [← Ny229.out] at ho; have n0_ := Aside0.mk (blk_grown (g := gb222) (o := .cells #[.int .i64 a0_0, .bool a0_1, .slice A0_2 l0_2.length c0_2, .slice A0_3 l0_3.length c0_3, .int .i64 a0_4, .int .i64 a0_5, .string a0_6, .slice A0_7 l0_7.length c0_7, .int .i64 a0_8, .int .i64 a0_9] 39 (0, 0)) (by exact BK222.out) hg (Kd.R_ne HO228.out BK222.out (by decide))); have n1_ := Aside0.mk (hb); have n2_ := Aside0.mk (ho); clear BK222; clear HB; clear HO228; have BK222 := n0_; have HB := n1_; have HO231 := n2_; clear n0_ n1_ n2_; clear ho hb hg hat; have hcz27_0 : w26.cell? ⟨gb222, 0, none⟩ = some (.int .i64 a0_0) := (blk_cell BK222.out 0).trans rfl; have hcz27_1 : w26.cell? ⟨gb222, 1, none⟩ = some (.bool a0_1) := (blk_cell BK222.out 1).trans rfl; have hcz27_2 : w26.cell? ⟨gb222, 2, none⟩ = some (.slice A0_2 l0_2.length c0_2) := (blk_cell BK222.out 2).trans rfl; have hcz27_3 : w26.cell? ⟨gb222, 3, none⟩ = some (.slice A0_3 l0_3.length c0_3) := (blk_cell BK222.out 3).trans rfl; have hcz27_4 : w26.cell? ⟨gb222, 4, none⟩ = some (.int .i64 a0_4) := (blk_cell BK222.out 4).trans rfl; have hcz27_5 : w26.cell? ⟨gb222, 5, none⟩ = some (.int .i64 a0_5) := (blk_cell BK222.out 5).trans rfl; have hcz27_6 : w26.cell? ⟨gb222, 6, none⟩ = some (.string a0_6) := (blk_cell BK222.out 6).trans rfl; have hcz27_7 : w26.cell? ⟨gb222, 7, none⟩ = some (.slice A0_7 l0_7.length c0_7) := (blk_cell BK222.out 7).trans rfl; have hcz27_8 : w26.cell? ⟨gb222, 8, none⟩ = some (.int .i64 a0_8) := (blk_cell BK222.out 8).trans rfl; have hcz27_9 : w26.cell? ⟨gb222, 9, none⟩ = some (.int .i64 a0_9) := (blk_cell BK222.out 9).trans rfl; have hfz27_0 := blk_frozen BK222.out 0; have hfz27_1 := blk_frozen BK222.out 1; have hfz27_2 := blk_frozen BK222.out 2; have hfz27_3 := blk_frozen BK222.out 3; have hfz27_4 := blk_frozen BK222.out 4; have hfz27_5 := blk_frozen BK222.out 5; have hfz27_6 := blk_frozen BK222.out 6; have hfz27_7 := blk_frozen BK222.out 7; have hfz27_8 := blk_frozen BK222.out 8; have hfz27_9 := blk_frozen BK222.out 9) | ((with_reducible refine gate_callee (f := 42) rfl ?_); refine goesL_ (some 31) rfl rfl Try.func42 (by kernel_rfl) rfl #[.slice A0_2 l0_2.length c0_2] rfl (by (try simp only [List.map_toArray, List.map_cons, List.map_nil]); (rfl)) ?_; (with_reducible refine (notaryref36_List.calls kj9 _ _ l0_2 t232 t233 _ ?side1 ?side2 A15.out).mono ?_); (case side1 => exact Kd.C_below HR0_2.out HB.out); (case side2 => exact HC0_2.out); rintro e w28 ⟨v234, rfl, ho0, hb⟩; refine ⟨_, rfl, ?_⟩; have n0_ := Aside0.mk (Kd.R_elder' (by exact HO231.out) (Kd.R_base ho0) hb); have n1_ := Aside0.mk (Kd.R_lower (Kd.R_new' ho0 (Kd.R_lt (by exact HO231.out))) (below_size HB.out)); have n2_ := Aside0.mk (blk_below (g := gb222) (o := .cells #[.int .i64 a0_0, .bool a0_1, .slice A0_2 l0_2.length c0_2, .slice A0_3 l0_3.length c0_3, .int .i64 a0_4, .int .i64 a0_5, .string a0_6, .slice A0_7 l0_7.length c0_7, .int .i64 a0_8, .int .i64 a0_9] 39 (0, 0)) (by exact BK222.out) hb); have n3_ := Aside0.mk (below_step HB.out hb); clear HO231; clear BK222; clear HB; have HO231 := n0_; have HO235 := n1_; have BK222 := n2_; have HB := n3_; clear n0_ n1_ n2_ n3_; (try clear hb); (try clear ho0); have hcz29_0 : w28.cell? ⟨gb222, 0, none⟩ = some (.int .i64 a0_0) := (blk_cell BK222.out 0).trans rfl; have hcz29_1 : w28.cell? ⟨gb222, 1, none⟩ = some (.bool a0_1) := (blk_cell BK222.out 1).trans rfl; have hcz29_2 : w28.cell? ⟨gb222, 2, none⟩ = some (.slice A0_2 l0_2.length c0_2) := (blk_cell BK222.out 2).trans rfl; have hcz29_3 : w28.cell? ⟨gb222, 3, none⟩ = some (.slice A0_3 l0_3.length c0_3) := (blk_cell BK222.out 3).trans rfl; have hcz29_4 : w28.cell? ⟨gb222, 4, none⟩ = some (.int .i64 a0_4) := (blk_cell BK222.out 4).trans rfl; have hcz29_5 : w28.cell? ⟨gb222, 5, none⟩ = some (.int .i64 a0_5) := (blk_cell BK222.out 5).trans rfl; have hcz29_6 : w28.cell? ⟨gb222, 6, none⟩ = some (.string a0_6) := (blk_cell BK222.out 6).trans rfl; have hcz29_7 : w28.cell? ⟨gb222, 7, none⟩ = some (.slice A0_7 l0_7.length c0_7) := (blk_cell BK222.out 7).trans rfl; have hcz29_8 : w28.cell? ⟨gb222, 8, none⟩ = some (.int .i64 a0_8) := (blk_cell BK222.out 8).trans rfl; have hcz29_9 : w28.cell? ⟨gb222, 9, none⟩ = some (.int .i64 a0_9) := (blk_cell BK222.out 9).trans rfl; have hfz29_0 := blk_frozen BK222.out 0; have hfz29_1 := blk_frozen BK222.out 1; have hfz29_2 := blk_frozen BK222.out 2; have hfz29_3 := blk_frozen BK222.out 3; have hfz29_4 := blk_frozen BK222.out 4; have hfz29_5 := blk_frozen BK222.out 5; have hfz29_6 := blk_frozen BK222.out 6; have hfz29_7 := blk_frozen BK222.out 7; have hfz29_8 := blk_frozen BK222.out 8; have hfz29_9 := blk_frozen BK222.out 9) | ((with_reducible refine gate_callee (f := 42) rfl ?_); refine goesL_ (some 41) rfl rfl Try.func42 (by kernel_rfl) rfl #[.slice A0_3 l0_3.length c0_3] rfl (by (try simp only [List.map_toArray, List.map_cons, List.map_nil]); (rfl)) ?_; (with_reducible refine (notaryref36_List.calls kj9 _ _ l0_3 t239 t240 _ ?side1 ?side2 A17.out).mono ?_); (case side1 => exact Kd.C_below HR0_3.out HB.out); (case side2 => exact HC0_3.out); rintro e w30 ⟨v241, rfl, ho0, hb⟩; refine ⟨_, rfl, ?_⟩; have n0_ := Aside0.mk (Kd.R_elder' (by exact HO231.out) (Kd.R_base ho0) hb); have n1_ := Aside0.mk (Kd.R_elder' (by exact HO235.out) (Kd.R_base ho0) hb); have n2_ := Aside0.mk (Kd.R_lower (Kd.R_new' (Kd.R_new' ho0 (Kd.R_lt (by exact HO231.out))) (Kd.R_lt (by exact HO235.out))) (below_size HB.out)); have n3_ := Aside0.mk (blk_below (g := gb222) (o := .cells #[.int .i64 a0_0, .bool a0_1, .slice A0_2 l0_2.length c0_2, .slice A0_3 l0_3.length c0_3, .int .i64 a0_4, .int .i64 a0_5, .string a0_6, .slice A0_7 l0_7.length c0_7, .int .i64 a0_8, .int .i64 a0_9] 39 (0, 0)) (by exact BK222.out) hb); have n4_ := Aside0.mk (below_step HB.out hb); clear HO231; clear HO235; clear BK222; clear HB; have HO231 := n0_; have HO235 := n1_; have HO242 := n2_; have BK222 := n3_; have HB := n4_; clear n0_ n1_ n2_ n3_ n4_; (try clear hb); (try clear ho0); have hcz31_0 : w30.cell? ⟨gb222, 0, none⟩ = some (.int .i64 a0_0) := (blk_cell BK222.out 0).trans rfl; have hcz31_1 : w30.cell? ⟨gb222, 1, none⟩ = some (.bool a0_1) := (blk_cell BK222.out 1).trans rfl; have hcz31_2 : w30.cell? ⟨gb222, 2, none⟩ = some (.slice A0_2 l0_2.length c0_2) := (blk_cell BK222.out 2).trans rfl; have hcz31_3 : w30.cell? ⟨gb222, 3, none⟩ = some (.slice A0_3 l0_3.length c0_3) := (blk_cell BK222.out 3).trans rfl; have hcz31_4 : w30.cell? ⟨gb222, 4, none⟩ = some (.int .i64 a0_4) := (blk_cell BK222.out 4).trans rfl; have hcz31_5 : w30.cell? ⟨gb222, 5, none⟩ = some (.int .i64 a0_5) := (blk_cell BK222.out 5).trans rfl; have hcz31_6 : w30.cell? ⟨gb222, 6, none⟩ = some (.string a0_6) := (blk_cell BK222.out 6).trans rfl; have hcz31_7 : w30.cell? ⟨gb222, 7, none⟩ = some (.slice A0_7 l0_7.length c0_7) := (blk_cell BK222.out 7).trans rfl; have hcz31_8 : w30.cell? ⟨gb222, 8, none⟩ = some (.int .i64 a0_8) := (blk_cell BK222.out 8).trans rfl; have hcz31_9 : w30.cell? ⟨gb222, 9, none⟩ = some (.int .i64 a0_9) := (blk_cell BK222.out 9).trans rfl; have hfz31_0 := blk_frozen BK222.out 0; have hfz31_1 := blk_frozen BK222.out 1; have hfz31_2 := blk_frozen BK222.out 2; have hfz31_3 := blk_frozen BK222.out 3; have hfz31_4 := blk_frozen BK222.out 4; have hfz31_5 := blk_frozen BK222.out 5; have hfz31_6 := blk_frozen BK222.out 6; have hfz31_7 := blk_frozen BK222.out 7; have hfz31_8 := blk_frozen BK222.out 8; have hfz31_9 := blk_frozen BK222.out 9) | ((with_reducible refine gate_callee (f := 11) rfl ?_); refine goesL_ (some 51) rfl rfl Try.func11 (by kernel_rfl) rfl #[.agg #[.int .i64 a0_4, .int .i64 a0_5, .string a0_6, .slice A0_7 l0_7.length c0_7, .int .i64 a0_8, .int .i64 a0_9], .int .i64 1] rfl (by (try simp only [List.map_toArray, List.map_cons, List.map_nil]); (rfl)) ?_; (with_reducible refine (notaryref36_Term.calls kj9 a0_4 a0_5 a0_6 _ _ l0_7 a0_8 a0_9 1 t243 t246 _ ?side1 ?side2 A19.out).mono ?_); (case side1 => exact Kd.C_below HR0_7.out HB.out); (case side2 => exact HC0_7.out); rintro e w32 ⟨v244, rfl, ho0, hb⟩; refine ⟨_, rfl, ?_⟩; have n0_ := Aside0.mk (Kd.R_elder' (by exact HO231.out) (Kd.R_base ho0) hb); have n1_ := Aside0.mk (Kd.R_elder' (by exact HO235.out) (Kd.R_base ho0) hb); have n2_ := Aside0.mk (Kd.R_elder' (by exact HO242.out) (Kd.R_base ho0) hb); have n3_ := Aside0.mk (Kd.R_lower (Kd.R_new' (Kd.R_new' (Kd.R_new' ho0 (Kd.R_lt (by exact HO231.out))) (Kd.R_lt (by exact HO235.out))) (Kd.R_lt (by exact HO242.out))) (below_size HB.out)); have n4_ := Aside0.mk (blk_below (g := gb222) (o := .cells #[.int .i64 a0_0, .bool a0_1, .slice A0_2 l0_2.length c0_2, .slice A0_3 l0_3.length c0_3, .int .i64 a0_4, .int .i64 a0_5, .string a0_6, .slice A0_7 l0_7.length c0_7, .int .i64 a0_8, .int .i64 a0_9] 39 (0, 0)) (by exact BK222.out) hb); have n5_ := Aside0.mk (below_step HB.out hb); clear HO231; clear HO235; clear HO242; clear BK222; clear HB; have HO231 := n0_; have HO235 := n1_; have HO242 := n2_; have HO245 := n3_; have BK222 := n4_; have HB := n5_; clear n0_ n1_ n2_ n3_ n4_ n5_; (try clear hb); (try clear ho0); obtain ⟨Ao34, co34, eo34⟩ := Kd.R_slice HO235.out; subst eo34) | ((with_reducible refine gate_builtin (b := .append) (xs := #[.tmp 58, .tmp 59]) rfl ?_); at_builtin; refine Kd.R_append_rows (Kd.int .u8) (w0 := w) w.heap.size rfl (.tmp 58) (.tmp 59) 22 5 (.int .u8 0) 1 rfl Try.underlying22 info5 rfl (by decide) (by omega) v230 y229 t232 _ _ _ (fun k_ => some k_ ≠ (.slice Ao34 t232.length co34 : Value).ownBlock ∧ some k_ ≠ (v241 : Value).ownBlock ∧ some k_ ≠ (v244 : Value).ownBlock) (fun _ => False) rfl rfl ?aO ?aR (fun _ _ h => h) (fun _ h => h.elim) ?aF ?aB ?aS ?aL ?_; (case aR => repeat ((exact (Kd.R_reads' HO235.out).2.2))); (case aB => exact HB.out); (case aF => exact (fun k_ hk => ⟨Kd.fresh' (Kd.R_lt (by exact HO235.out)) k_ hk, Kd.fresh' (Kd.R_lt (by exact HO242.out)) k_ hk, Kd.fresh' (Kd.R_lt (by exact HO245.out)) k_ hk⟩)); (case aO => exact (by exact Kd.R_mono HO231.out (fun _ hk => ⟨hk.1.1.2, ⟨hk.1.2, hk.2⟩⟩))); (case aS => exact (below_size HB.out)); (case aL => have := LMc21.out; omega); intro v248 w33 ho hb hg hat; rw [← Ny247.out] at ho; have n0_ := Aside0.mk (blk_grown (g := gb222) (o := .cells #[.int .i64 a0_0, .bool a0_1, .slice A0_2 l0_2.length c0_2, .slice A0_3 l0_3.length c0_3, .int .i64 a0_4, .int .i64 a0_5, .string a0_6, .slice A0_7 l0_7.length c0_7, .int .i64 a0_8, .int .i64 a0_9] 39 (0, 0)) (by exact BK222.out) hg (Kd.R_ne HO231.out BK222.out (by decide))); have n1_ := Aside0.mk (Kd.R_after (ok := (fun k_ => some k_ ≠ (v241 : Value).ownBlock ∧ some k_ ≠ (v244 : Value).ownBlock)) (by exact Kd.R_mono HO235.out (fun _ hk => ⟨⟨hk.1.2, hk.2⟩, hk.1.1.2⟩)) hg hat); have n2_ := Aside0.mk (Kd.R_after (ok := (fun k_ => some k_ ≠ (.slice Ao34 t232.length co34 : Value).ownBlock ∧ some k_ ≠ (v244 : Value).ownBlock)) (by exact Kd.R_mono HO242.out (fun _ hk => ⟨⟨hk.1.2, hk.2⟩, hk.1.1.2⟩)) hg hat); have n3_ := Aside0.mk (Kd.R_after (ok := (fun k_ => some k_ ≠ (.slice Ao34 t232.length co34 : Value).ownBlock ∧ some k_ ≠ (v241 : Value).ownBlock)) (by exact Kd.R_mono HO245.out (fun _ hk => ⟨⟨hk.1.2, hk.2⟩, hk.1.1.2⟩)) hg hat); have n4_ := Aside0.mk (hb); have n5_ := Aside0.mk (ho); clear BK222; clear HO235; clear HO242; clear HO245; clear HB; clear HO231; have BK222 := n0_; have HO235 := n1_; have HO242 := n2_; have HO245 := n3_; have HB := n4_; have HO249 := n5_; clear n0_ n1_ n2_ n3_ n4_ n5_; clear ho hb hg hat; obtain ⟨Ao36, co36, eo36⟩ := Kd.R_slice HO242.out; subst eo36) | ((with_reducible refine gate_builtin (b := .append) (xs := #[.tmp 60, .tmp 61]) rfl ?_); at_builtin; refine Kd.R_append_rows (Kd.int .u8) (w0 := w) w.heap.size rfl (.tmp 60) (.tmp 61) 22 5 (.int .u8 0) 1 rfl Try.underlying22 info5 rfl (by decide) (by omega) v248 y247 t239 _ _ _ (fun k_ => some k_ ≠ (.slice Ao34 t232.length co34 : Value).ownBlock ∧ some k_ ≠ (.slice Ao36 t239.length co36 : Value).ownBlock ∧ some k_ ≠ (v244 : Value).ownBlock) (fun _ => False) rfl rfl ?aO ?aR (fun _ _ h => h) (fun _ h => h.elim) ?aF ?aB ?aS ?aL ?_; (case aR => repeat ((exact (Kd.R_reads' HO242.out).2.2))); (case aB => exact HB.out); (case aF => exact (fun k_ hk => ⟨Kd.fresh' (Kd.R_lt (by exact HO235.out)) k_ hk, Kd.fresh' (Kd.R_lt (by exact HO242.out)) k_ hk, Kd.fresh' (Kd.R_lt (by exact HO245.out)) k_ hk⟩)); (case aO => exact (by exact HO249.out)); (case aS => exact (below_size HB.out)); (case aL => have := LMc22.out; omega); intro v251 w35 ho hb hg hat; rw [← Ny250.out] at ho; have n0_ := Aside0.mk (blk_grown (g := gb222) (o := .cells #[.int .i64 a0_0, .bool a0_1, .slice A0_2 l0_2.length c0_2, .slice A0_3 l0_3.length c0_3, .int .i64 a0_4, .int .i64 a0_5, .string a0_6, .slice A0_7 l0_7.length c0_7, .int .i64 a0_8, .int .i64 a0_9] 39 (0, 0)) (by exact BK222.out) hg (Kd.R_ne HO249.out BK222.out (by decide))); have n1_ := Aside0.mk (Kd.R_after (ok := (fun k_ => some k_ ≠ (.slice Ao36 t239.length co36 : Value).ownBlock ∧ some k_ ≠ (v244 : Value).ownBlock)) (by exact HO235.out) hg hat); have n2_ := Aside0.mk (Kd.R_after (ok := (fun k_ => some k_ ≠ (.slice Ao34 t232.length co34 : Value).ownBlock ∧ some k_ ≠ (v244 : Value).ownBlock)) (by exact HO242.out) hg hat); have n3_ := Aside0.mk (Kd.R_after (ok := (fun k_ => some k_ ≠ (.slice Ao34 t232.length co34 : Value).ownBlock ∧ some k_ ≠ (.slice Ao36 t239.length co36 : Value).ownBlock)) (by exact HO245.out) hg hat); have n4_ := Aside0.mk (hb); have n5_ := Aside0.mk (ho); clear BK222; clear HO235; clear HO242; clear HO245; clear HB; clear HO249; have BK222 := n0_; have HO235 := n1_; have HO242 := n2_; have HO245 := n3_; have HB := n4_; have HO252 := n5_; clear n0_ n1_ n2_ n3_ n4_ n5_; clear ho hb hg hat; obtain ⟨Ao38, co38, eo38⟩ := Kd.R_slice HO245.out; subst eo38) | ((with_reducible refine gate_builtin (b := .append) (xs := #[.tmp 62, .tmp 63]) rfl ?_); at_builtin; refine Kd.R_append_rows (Kd.int .u8) (w0 := w) w.heap.size rfl (.tmp 62) (.tmp 63) 22 5 (.int .u8 0) 1 rfl Try.underlying22 info5 rfl (by decide) (by omega) v251 y250 t243 _ _ _ (fun k_ => some k_ ≠ (.slice Ao34 t232.length co34 : Value).ownBlock ∧ some k_ ≠ (.slice Ao36 t239.length co36 : Value).ownBlock ∧ some k_ ≠ (.slice Ao38 t243.length co38 : Value).ownBlock) (fun _ => False) rfl rfl ?aO ?aR (fun _ _ h => h) (fun _ h => h.elim) ?aF ?aB ?aS ?aL ?_; (case aR => repeat ((exact (Kd.R_reads' HO245.out).2.2))); (case aB => exact HB.out); (case aF => exact (fun k_ hk => ⟨Kd.fresh' (Kd.R_lt (by exact HO235.out)) k_ hk, Kd.fresh' (Kd.R_lt (by exact HO242.out)) k_ hk, Kd.fresh' (Kd.R_lt (by exact HO245.out)) k_ hk⟩)); (case aO => exact (by exact HO252.out)); (case aS => exact (below_size HB.out)); (case aL => have := LMc23.out; omega); intro v254 w37 ho hb hg hat; rw [← Ny253.out] at ho; have n0_ := Aside0.mk (blk_grown (g := gb222) (o := .cells #[.int .i64 a0_0, .bool a0_1, .slice A0_2 l0_2.length c0_2, .slice A0_3 l0_3.length c0_3, .int .i64 a0_4, .int .i64 a0_5, .string a0_6, .slice A0_7 l0_7.length c0_7, .int .i64 a0_8, .int .i64 a0_9] 39 (0, 0)) (by exact BK222.out) hg (Kd.R_ne HO252.out BK222.out (by decide))); have n1_ := Aside0.mk (Kd.R_after (ok := (fun k_ => some k_ ≠ (.slice Ao36 t239.length co36 : Value).ownBlock ∧ some k_ ≠ (.slice Ao38 t243.length co38 : Value).ownBlock)) (by exact HO235.out) hg hat); have n2_ := Aside0.mk (Kd.R_after (ok := (fun k_ => some k_ ≠ (.slice Ao34 t232.length co34 : Value).ownBlock ∧ some k_ ≠ (.slice Ao38 t243.length co38 : Value).ownBlock)) (by exact HO242.out) hg hat); have n3_ := Aside0.mk (Kd.R_after (ok := (fun k_ => some k_ ≠ (.slice Ao34 t232.length co34 : Value).ownBlock ∧ some k_ ≠ (.slice Ao36 t239.length co36 : Value).ownBlock)) (by exact HO245.out) hg hat); have n4_ := Aside0.mk (hb); have n5_ := Aside0.mk (ho); clear BK222; clear HO235; clear HO242; clear HO245; clear HB; clear HO252; have BK222 := n0_; have HO235 := n1_; have HO242 := n2_; have HO245 := n3_; have HB := n4_; have HO255 := n5_; clear n0_ n1_ n2_ n3_ n4_ n5_; clear ho hb hg hat))
  go_ret2
  exact ⟨_, by (rfl), by exact Kd.R_mono HO255.out (fun _ hk => trivial), HB.out⟩
end Go.Proofs.Ytiamcmjdoobaeaa.PCd
