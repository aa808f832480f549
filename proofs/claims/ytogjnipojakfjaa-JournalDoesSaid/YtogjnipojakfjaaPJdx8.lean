-- SLIM: a printed text of which the unused ways are cut off
-- PRINTED by print.py (a twelfth state) out of the translation. Not trusted: Lean checks it.
import Derived.Test.YtogjnipojakfjaaPJdx0
import Derived.Test.YtogjnipojakfjaaPJdx4
import Derived.Test.YtogjnipojakfjaaPJdx5
import Derived.Test.YtogjnipojakfjaaPJdx6
import Derived.Test.YtogjnipojakfjaaPJdx7
namespace Go.Proofs.Ytogjnipojakfjaa.PJd
open Go.RowKit Go.Proofs.YtogjnipojakfjaaW.PrintWords Go.Proofs.YtogjnipojakfjaaW.PrintLast Go.Proofs.YtogjnipojakfjaaW.PrintMore
attribute [local go_sem] max2_int min2_int max_two min_two max_three min_three max_four min_four   -- for this text's walks alone
set_option linter.unusedVariables false
set_option linter.unusedSimpArgs false

/-! ### notaryref03_Sum: function 71 -/
mutual
def notaryref03_Sum.l0 : Nat → List Int → List Int → List Int → Int → Option (List Int)
  | 0, _, _, _, _ => none
  | k + 1, x3, x4, x5, x6 => if (wrap64 (x6 + 64)) ≤ (x3.length : Int) then (if 0 ≤ x6 then (if x6 ≤ (wrap64 (x6 + 64)) then ((notaryref03_Block.f k x5 ((x3.take ((wrap64 (x6 + 64)) : Int).toNat).drop (x6 : Int).toNat) x4).bind fun t312 => (notaryref03_Sum.l0 k x3 x4 t312 (wrap64 (x6 + 64)))) else (none)) else (none)) else (notaryref03_Sum.l1 k x5 ([] : List Int) 0)
def notaryref03_Sum.l1 : Nat → List Int → List Int → Int → Option (List Int)
  | 0, _, _, _ => none
  | k + 1, x5, x7, x8 => if x8 < 8 then (if 0 ≤ x8 then (if x8 < (x5.length : Int) then ((some (([((Int.tdiv (rd x5 x8) 16777216) % 4294967296) % 256, ((Int.tdiv (rd x5 x8) 65536) % 4294967296) % 256, ((Int.tdiv (rd x5 x8) 256) % 4294967296) % 256, (Int.tmod (rd x5 x8) 256) % 256] : List Int) : List Int)).bind fun y322 => (if x7.length + y322.length < 140737488355328 then (notaryref03_Sum.l1 k x5 (x7 ++ y322) (wrap64 (x8 + 1))) else (none))) else (none)) else (none)) else (some x7)
end
def notaryref03_Sum.f (k : Nat) (l0 : List Int) : Option (List Int) := (some (([] : List Int) : List Int)).bind fun y290 => (if y290.length + l0.length < 140737488355328 then ((some (y290 ++ l0 : List Int)).bind fun y293 => ((notaryref03_Tail.f k (l0.length : Int)).bind fun t296 => (if y293.length + t296.length < 140737488355328 then ((notaryref03_Rounds.f k).bind fun t302 => ((notaryref03_Start.f k).bind fun t305 => (notaryref03_Sum.l0 k (y293 ++ t296) t302 t305 0))) else (none)))) else (none))
def notaryref03_Sum.T13 : Bool × List (List Nat × List Nat) := (true, [([], []), ([], []), ([], []), ([1, 2], [1, 2]), ([3], [3]), ([4], [4]), ([5], [5]), ([], []), ([], []), ([7, 8], [7, 8]), ([9], [9]), ([10], [10]), ([11], [11]), ([12], [12]), ([], []), ([], []), ([14, 15], [14, 15]), ([16], [16]), ([17], [17]), ([18], [18]), ([19], [19]), ([], []), ([], []), ([21, 22], [21, 22]), ([23], [23]), ([24], [24]), ([25], [25]), ([6, 13, 20, 26], [6, 13, 20, 26]), ([0, 27], [0, 27]), ([28, 28, 0, 1, 2, 3, 4, 5, 6, 7, 8, 9, 10, 11, 12, 13, 14, 15, 16, 17, 18, 19, 20, 21, 22, 23, 24, 25, 26, 27, 28], [0, 28])])
def notaryref03_Sum.B13 : List Nat := [0, 0, 0, 6, 14, 30, 62, 0, 0, 384, 896, 1920, 3968, 8064, 0, 0, 49152, 114688, 245760, 507904, 1032192, 0, 0, 6291456, 14680064, 31457280, 65011712, 134217726, 268435455, 536870911]
theorem notaryref03_Sum.tab13 : rtab .any (opsOf Try.f71 13) = notaryref03_Sum.T13 := by kernel_rfl
theorem notaryref03_Sum.bits13 : waitsOk notaryref03_Sum.T13.2 notaryref03_Sum.B13 = true := by kernel_rfl
set_option maxHeartbeats 8000000 in
set_option maxRecDepth 100000 in
theorem notaryref03_Sum.calls (k : Nat) (A0 : Option Addr) (c0 : Nat) (l0 : List Int) (r : List Int) (w : World) (hr0 : Kd.C (Kd.int .u8) w A0 l0.length l0) (hc0 : l0.length ≤ c0) (h : notaryref03_Sum.f k l0 = some r) :
    Calls Try.prog 71 #[.slice A0 l0.length c0] w fun e w' => ∃ v0_ : Value, e = .returned (v0_) ∧ Kd.R (Kd.int .u8) 5 w' w.heap.size (fun _ => True) v0_ r ∧ Below w.heap.size w w' := by
  have HR0 := Aside0.mk hr0
  have HC0 := Aside0.mk hc0
  clear hr0 hc0
  have HB := Aside0.mk (Below.refl w.heap.size w)
  have H : ((some (([] : List Int) : List Int)).bind fun y290 => (if y290.length + l0.length < 140737488355328 then ((some (y290 ++ l0 : List Int)).bind fun y293 => ((notaryref03_Tail.f k (l0.length : Int)).bind fun t296 => (if y293.length + t296.length < 140737488355328 then ((notaryref03_Rounds.f k).bind fun t302 => ((notaryref03_Start.f k).bind fun t305 => (notaryref03_Sum.l0 k (y293 ++ t296) t302 t305 0))) else (none)))) else (none))) = some r := h
  clear h
  obtain ⟨y290, hy290⟩ : ∃ y_ : List Int, y_ = ([] : List Int) := ⟨_, rfl⟩
  replace H : (if y290.length + l0.length < 140737488355328 then ((some (y290 ++ l0 : List Int)).bind fun y293 => ((notaryref03_Tail.f k (l0.length : Int)).bind fun t296 => (if y293.length + t296.length < 140737488355328 then ((notaryref03_Rounds.f k).bind fun t302 => ((notaryref03_Start.f k).bind fun t305 => (notaryref03_Sum.l0 k (y293 ++ t296) t302 t305 0))) else (none)))) else (none)) = some r := by ((have H2_ := (Option.bind_some _ _).symm.trans H; rw [hy290]; with_reducible exact H2_))
  have Ny290 := Aside0.mk hy290
  clear hy290
  by_cases c2 : y290.length + l0.length < 140737488355328
  rotate_left
  · rw [if_neg c2] at H
    exact absurd H (by simp)


  rw [if_pos c2] at H
  have LMc2 := Aside0.mk c2
  clear c2
  obtain ⟨y293, hy293⟩ : ∃ y_ : List Int, y_ = (y290 ++ l0) := ⟨_, rfl⟩
  replace H : ((notaryref03_Tail.f k (l0.length : Int)).bind fun t296 => (if y293.length + t296.length < 140737488355328 then ((notaryref03_Rounds.f k).bind fun t302 => ((notaryref03_Start.f k).bind fun t305 => (notaryref03_Sum.l0 k (y293 ++ t296) t302 t305 0))) else (none))) = some r := by ((have H2_ := (Option.bind_some _ _).symm.trans H; rw [hy293]; with_reducible exact H2_))
  have Ny293 := Aside0.mk hy293
  clear hy293
  replace H := Option.bind_eq_some_iff.mp H
  obtain ⟨t296, A30, H⟩ := H
  replace H : (if y293.length + t296.length < 140737488355328 then ((notaryref03_Rounds.f k).bind fun t302 => ((notaryref03_Start.f k).bind fun t305 => (notaryref03_Sum.l0 k (y293 ++ t296) t302 t305 0))) else (none)) = some r := H
  have A3 := Aside0.mk A30
  clear A30
  by_cases c4 : y293.length + t296.length < 140737488355328
  rotate_left
  · rw [if_neg c4] at H
    exact absurd H (by simp)
  rw [if_pos c4] at H
  have LMc4 := Aside0.mk c4
  clear c4
  obtain ⟨y299, hy299⟩ : ∃ y_ : List Int, y_ = (y293 ++ t296) := ⟨_, rfl⟩
  replace H : ((notaryref03_Rounds.f k).bind fun t302 => ((notaryref03_Start.f k).bind fun t305 => (notaryref03_Sum.l0 k y299 t302 t305 0))) = some r := by (rw [hy299]; with_reducible exact H)
  have Ny299 := Aside0.mk hy299
  clear hy299
  replace H := Option.bind_eq_some_iff.mp H
  obtain ⟨t302, A50, H⟩ := H
  replace H : ((notaryref03_Start.f k).bind fun t305 => (notaryref03_Sum.l0 k y299 t302 t305 0)) = some r := H
  have A5 := Aside0.mk A50
  clear A50
  replace H := Option.bind_eq_some_iff.mp H
  obtain ⟨t305, A60, H⟩ := H
  replace H : (notaryref03_Sum.l0 k y299 t302 t305 0) = some r := H
  have A6 := Aside0.mk A60
  clear A60
  have H' := Aside0.mk H
  clear H
  go_enter Try.func71, Try.ntmps71
  go_wp2_with (first | ((with_reducible refine gate_dst (N := 9) rfl ?_); refine Kd.R_lit (Kd.int .u8) _ 5 ?hg (N := 9) ?hd (xs := ([] : List Int)) (inner := []) (ok := fun _ => True) (okp := fun _ => True) ?hr ?hp (fun _ hk => hk) trivial (Below.refl _ _) (Nat.le_refl _) (by simp) ?_; (case hd => rfl); (case hg => rfl); (case hr => (go_simp; done)); (case hp => exact (Reps.none _ _)); intro v291 w7 ho8 hb hg_ hnew_; clear hg_ hnew_; (rw [← Ny290.out] at ho8); have n0_ := Aside0.mk (Kd.R_lower ho8 (below_size HB.out)); have n1_ := Aside0.mk (below_step HB.out hb); clear HB; have HO292 := n0_; have HB := n1_; clear n0_ n1_; clear hb ho8) | ((with_reducible refine gate_builtin (b := .append) (xs := #[.tmp 9, .tmp 10]) rfl ?_); at_builtin; refine Kd.R_append_rows (Kd.int .u8) (w0 := w) w.heap.size rfl (.tmp 9) (.tmp 10) 22 5 (.int .u8 0) 1 rfl Try.underlying22 info5 rfl (by decide) (by omega) v291 y290 l0 _ _ _ (fun _ => True) (fun _ => False) rfl rfl ?aO ?aR (fun _ _ h => h) (fun _ h => h.elim) ?aF ?aB ?aS ?aL ?_; (case aR => exact Kd.C_below HR0.out HB.out); (case aB => exact HB.out); (case aF => exact (fun _ _ => trivial)); (case aO => exact (by exact HO292.out)); (case aS => exact (below_size HB.out)); (case aL => have := LMc2.out; omega); intro v294 w9 ho hb hg hat; rw [← Ny293.out] at ho; have n0_ := Aside0.mk (hb); have n1_ := Aside0.mk (ho); clear HB; clear HO292; have HB := n0_; have HO295 := n1_; clear n0_ n1_; clear ho hb hg hat) | ((with_reducible refine gate_callee (f := 76) rfl ?_); refine goesL_ (some 15) rfl rfl Try.func76 (by kernel_rfl) rfl #[.int .i64 (l0.length : Int)] rfl (by (try simp only [List.map_toArray, List.map_cons, List.map_nil]); (rfl)) ?_; (with_reducible refine (notaryref03_Tail.calls k (l0.length : Int) t296 _ A3.out).mono ?_); rintro e w10 ⟨v297, rfl, ho0, hb⟩; refine ⟨_, rfl, ?_⟩; have n0_ := Aside0.mk (Kd.R_elder' (by exact HO295.out) (Kd.R_base ho0) hb); have n1_ := Aside0.mk (Kd.R_lower (Kd.R_new' ho0 (Kd.R_lt (by exact HO295.out))) (below_size HB.out)); have n2_ := Aside0.mk (below_step HB.out hb); clear HO295; clear HB; have HO295 := n0_; have HO298 := n1_; have HB := n2_; clear n0_ n1_ n2_; (try clear hb); (try clear ho0); obtain ⟨Ao12, co12, eo12⟩ := Kd.R_slice HO298.out; subst eo12) | ((with_reducible refine gate_builtin (b := .append) (xs := #[.tmp 12, .tmp 15]) rfl ?_); at_builtin; refine Kd.R_append_rows (Kd.int .u8) (w0 := w) w.heap.size rfl (.tmp 12) (.tmp 15) 22 5 (.int .u8 0) 1 rfl Try.underlying22 info5 rfl (by decide) (by omega) v294 y293 t296 _ _ _ (fun k_ => some k_ ≠ (.slice Ao12 t296.length co12 : Value).ownBlock) (fun _ => False) rfl rfl ?aO ?aR (fun _ _ h => h) (fun _ h => h.elim) ?aF ?aB ?aS ?aL ?_; (case aR => repeat ((exact (Kd.R_reads' HO298.out).2.2))); (case aB => exact HB.out); (case aF => exact (fun k_ hk => Kd.fresh' (Kd.R_lt (by exact HO298.out)) k_ hk)); (case aO => exact (by exact Kd.R_mono HO295.out (fun _ hk => hk.2))); (case aS => exact (below_size HB.out)); (case aL => have := LMc4.out; omega); intro v300 w11 ho hb hg hat; rw [← Ny299.out] at ho; have n0_ := Aside0.mk (Kd.R_after (ok := (fun _ => True)) (by exact HO298.out) hg hat); have n1_ := Aside0.mk (hb); have n2_ := Aside0.mk (ho); clear HO298; clear HB; clear HO295; have HO298 := n0_; have HB := n1_; have HO301 := n2_; clear n0_ n1_ n2_; clear ho hb hg hat) | ((with_reducible refine gate_callee (f := 77) rfl ?_); refine goesL_ (some 17) rfl rfl Try.func77 (by kernel_rfl) rfl #[] rfl (by (try simp only [List.map_toArray, List.map_cons, List.map_nil]); (done)) ?_; (with_reducible refine (notaryref03_Rounds.calls k  t302 _ A5.out).mono ?_); rintro e w13 ⟨v303, rfl, ho0, hb⟩; refine ⟨_, rfl, ?_⟩; have n0_ := Aside0.mk (Kd.R_below (by exact HO298.out) hb); have n1_ := Aside0.mk (Kd.R_below (by exact HO301.out) hb); have n2_ := Aside0.mk (Kd.R_lower ho0 (below_size HB.out)); have n3_ := Aside0.mk (below_step HB.out hb); clear HO298; clear HO301; clear HB; have HO298 := n0_; have HO301 := n1_; have HO304 := n2_; have HB := n3_; clear n0_ n1_ n2_ n3_; (try clear hb); (try clear ho0)) | ((with_reducible refine gate_callee (f := 78) rfl ?_); refine goesL_ (some 18) rfl rfl Try.func78 (by kernel_rfl) rfl #[] rfl (by (try simp only [List.map_toArray, List.map_cons, List.map_nil]); (done)) ?_; (with_reducible refine (notaryref03_Start.calls k  t305 _ A6.out).mono ?_); rintro e w14 ⟨v306, rfl, ho0, hb⟩; refine ⟨_, rfl, ?_⟩; have n0_ := Aside0.mk (Kd.R_below (by exact HO298.out) hb); have n1_ := Aside0.mk (Kd.R_below (by exact HO301.out) hb); have n2_ := Aside0.mk (Kd.R_elder' (by exact HO304.out) (Kd.R_base ho0) hb); have n3_ := Aside0.mk (Kd.R_lower (Kd.R_new' ho0 (Kd.R_lt (by exact HO304.out))) (below_size HB.out)); have n4_ := Aside0.mk (below_step HB.out hb); clear HO298; clear HO301; clear HO304; clear HB; have HO298 := n0_; have HO301 := n1_; have HO304 := n2_; have HO307 := n3_; have HB := n4_; clear n0_ n1_ n2_ n3_ n4_; (try clear hb); (try clear ho0)))
  go_loopg [5, 6] k (fun kq v5 v6 w' => ∃ (x5_1 : List Int) (x6_1 : Int), v6 = .int .i64 x6_1 ∧ Aside0 (notaryref03_Sum.l0 kq y299 t302 x5_1 x6_1 = some r) ∧ Aside0 (kq ≤ k) ∧ Aside0 (Kd.R (Kd.int .u8) 5 w' w.heap.size (fun _ => True) v300 y299) ∧ Aside0 (Kd.R (Kd.int .u32) 87 w' w.heap.size (fun k_ => some k_ ≠ (v5 : Value).ownBlock) v303 t302) ∧ Aside0 (Kd.R (Kd.int .u32) 87 w' w.heap.size (fun k_ => some k_ ≠ (v303 : Value).ownBlock) v5 x5_1) ∧ Aside0 (Below w.heap.size w w'))
  case atStart => exact ⟨(t305), (0), (by (rfl)), H', ⟨Nat.le_refl _⟩, ⟨by exact Kd.R_mono HO301.out (fun _ hk => trivial)⟩, ⟨by exact Kd.R_mono HO304.out (fun _ hk => hk.2)⟩, ⟨by exact Kd.R_mono HO307.out (fun _ hk => hk.2)⟩, ⟨HB.out⟩⟩
  clear H'
  obtain ⟨x5_1, x6_1, rfl, HA, HK1, HO_3, HO_4, HO_5, HB⟩ := hrel
  rcases gk with _ | k1
  · exact absurd HA.out (by simp [notaryref03_Sum.l0])
  have H := HA.out
  clear HA
  simp only [notaryref03_Sum.l0] at H
  by_cases c15 : (wrap64 (x6_1 + 64)) ≤ (y299.length : Int)
  · rw [if_pos c15] at H
    have c15b0 : decide ((wrap64 (x6_1 + 64)) ≤ (y299.length : Int)) = true := decide_eq_true c15
    clear c15
    by_cases c16 : 0 ≤ x6_1
    rotate_left
    · rw [if_neg c16] at H
      exact absurd H (by simp)
    rw [if_pos c16] at H
    have c16b0 := eq_true c16
    have c16b1 : decide (0 ≤ x6_1) = true := decide_eq_true c16
    clear c16
    by_cases c17 : x6_1 ≤ (wrap64 (x6_1 + 64))
    rotate_left
    · rw [if_neg c17] at H
      exact absurd H (by simp)
    rw [if_pos c17] at H
    have c17b0 := eq_true c17
    have c17b1 : decide (x6_1 ≤ (wrap64 (x6_1 + 64))) = true := decide_eq_true c17
    have c18b0 := eq_true (of_decide_eq_true (by (with_reducible assumption)) : (wrap64 (x6_1 + 64)) ≤ (y299.length : Int))
    obtain ⟨y308, hy308⟩ : ∃ y_ : List Int, y_ = ((y299.take ((wrap64 (x6_1 + 64)) : Int).toNat).drop (x6_1 : Int).toNat) := ⟨_, rfl⟩
    replace H : ((notaryref03_Block.f k1 x5_1 y308 t302).bind fun t312 => (notaryref03_Sum.l0 k1 y299 t302 t312 (wrap64 (x6_1 + 64)))) = some r := by (rw [hy308]; with_reducible exact H)
    have Ny308 := Aside0.mk hy308
    clear hy308
    replace H := Option.bind_eq_some_iff.mp H
    obtain ⟨t312, A190, H⟩ := H
    replace H : (notaryref03_Sum.l0 k1 y299 t302 t312 (wrap64 (x6_1 + 64))) = some r := H
    have A19 := Aside0.mk A190
    clear A190
    have H' := Aside0.mk H
    clear H
    obtain ⟨Ao20, co20, eo20⟩ := Kd.R_slice HO_3.out
    subst eo20
    have q21 : ((wrap64 (x6_1 + 64)) : Int) ≤ ((y299.length : Int) : Int) := of_decide_eq_true (by (with_reducible assumption))
    obtain ⟨i021, hi021, _, hsz21, _⟩ := info_parts info5
    have hroom21 : y299.length ≤ co20 := (Kd.R_reads' HO_3.out).2.1
    have hC21 : Kd.C (Kd.int .u8) _ Ao20 y299.length y299 := (Kd.R_reads' HO_3.out).2.2
    have ql21 : (x6_1 : Int) ≤ ((wrap64 (x6_1 + 64)) : Int) := of_decide_eq_true (by (with_reducible assumption))
    have q021 : (0 : Int) ≤ (x6_1 : Int) := of_decide_eq_true (by (with_reducible assumption))
    have hcut21 := cut_mid (P := Try.prog) 22 5 .i64 .i64 Try.underlying22 hi021 1 hsz21 Ao20 y299.length co20 x6_1 (wrap64 (x6_1 + 64)) q021 ql21 q21 hroom21
    have hr21 := Kd.C_mid (lo := (x6_1 : Int).toNat) (hi := ((wrap64 (x6_1 + 64)) : Int).toNat) (c := co20) hC21 (by omega) (by omega) hroom21
    obtain ⟨A21, hA21⟩ : ∃ A1, A1 = (if co20 = (x6_1 : Int).toNat then Ao20 else (Ao20 : Option Addr).map (·.add ((x6_1 : Int).toNat * 1))) := ⟨_, rfl⟩
    obtain ⟨c21, hc21⟩ : ∃ c1, c1 = co20 - (x6_1 : Int).toNat := ⟨_, rfl⟩
    have hy21 : y308.length = ((wrap64 (x6_1 + 64)) : Int).toNat - (x6_1 : Int).toNat := (by rw [Ny308.out, List.length_drop, List.length_take] <;> omega)
    rw [show ((y299).take ((wrap64 (x6_1 + 64)) : Int).toNat).drop (x6_1 : Int).toNat = y308 from Ny308.out.symm] at hr21
    replace hr21 : Kd.C (Kd.int .u8) _ A21 y308.length y308 := (by rw [hA21]; exact hr21)
    rw [← hy21, ← hA21, ← hc21] at hcut21
    have HR311 := Aside0.mk hr21
    have HC311 := Aside0.mk (show y308.length ≤ c21 from by rw [hy21, hc21]; exact Nat.sub_le_sub_right (Nat.le_trans (by omega) hroom21) _)
    clear hr21 hC21 hroom21 hi021 hsz21 hc21
    have KY21 := Aside0.mk hy21
    have KA21 := Aside0.mk hA21
    clear hy21 hA21
    have KL21 := Aside0.mk (show ((wrap64 (x6_1 + 64)) : Int).toNat ≤ y299.length from by omega)
    have KM21 := Aside0.mk (show (x6_1 : Int).toNat ≤ ((wrap64 (x6_1 + 64)) : Int).toNat from by omega)
    replace q21 := eq_true q21
    obtain ⟨Ao22, co22, eo22⟩ := Kd.R_slice HO_5.out
    subst eo22
    obtain ⟨Ao23, co23, eo23⟩ := Kd.R_slice HO_4.out
    subst eo23
    go_wp2_with ((((with_reducible refine gate_callee (f := 79) rfl ?_); refine goesL_ (some 33) rfl rfl Try.func79 (by kernel_rfl) rfl #[.slice Ao22 x5_1.length co22, .slice A21 y308.length c21, .slice Ao23 t302.length co23] rfl (by (try simp only [List.map_toArray, List.map_cons, List.map_nil]); (rfl)) ?_; (with_reducible refine (notaryref03_Block.calls k1 _ _ x5_1 _ _ y308 _ _ t302 t312 _ ?side1 ?side2 ?side3 ?side4 ?side5 ?side6 A19.out).mono ?_); (case side1 => repeat ((exact (Kd.R_reads' HO_5.out).2.2))); (case side2 => exact (Kd.R_reads' HO_5.out).2.1); (case side3 => repeat ((exact (by repeat (with_reducible exact HR311.out))))); (case side4 => exact HC311.out); (case side5 => repeat ((exact (Kd.R_reads' HO_4.out).2.2))); (case side6 => exact (Kd.R_reads' HO_4.out).2.1); rintro e w24 ⟨v313, rfl, ho0, hb⟩; refine ⟨_, rfl, ?_⟩; have n0_ := Aside0.mk (Kd.R_below (by exact HO_3.out) hb); have n1_ := Aside0.mk (Kd.R_elder' (by exact HO_4.out) (Kd.R_base ho0) hb); have n2_ := Aside0.mk (Kd.R_elder' (by exact HO_5.out) (Kd.R_base ho0) hb); have n3_ := Aside0.mk (Kd.R_lower (Kd.R_new' (Kd.R_new' ho0 (Kd.R_lt (by exact HO_4.out))) (Kd.R_lt (by exact HO_5.out))) (below_size HB.out)); have n4_ := Aside0.mk (Kd.C_below (by repeat (with_reducible exact HR311.out)) hb); have n5_ := Aside0.mk (below_step HB.out hb); clear HO_3; clear HO_4; clear HO_5; clear HR311; clear HB; have HO_3 := n0_; have HO_4 := n1_; have HO_5 := n2_; have HO314 := n3_; have HR311 := n4_; have HB := n5_; clear n0_ n1_ n2_ n3_ n4_ n5_; (try clear hb); (try clear ho0))))
    go_roundg k1
    case measure => have := HK1.out; omega
    case rel => exact ⟨(t312), (wrap64 (x6_1 + 64)), (by (rfl)), H', ⟨by have := HK1.out; omega⟩, ⟨by exact HO_3.out⟩, ⟨by exact Kd.R_mono HO_4.out (fun _ hk => hk.2)⟩, ⟨by exact Kd.R_mono HO314.out (fun _ hk => hk.1.2)⟩, ⟨HB.out⟩⟩
  rw [if_neg c15] at H
  have c15b0 : decide ((wrap64 (x6_1 + 64)) ≤ (y299.length : Int)) = false := decide_eq_false c15
  clear c15
  obtain ⟨y315, hy315⟩ : ∃ y_ : List Int, y_ = ([] : List Int) := ⟨_, rfl⟩
  replace H : (notaryref03_Sum.l1 k1 x5_1 y315 0) = some r := by (rw [hy315]; with_reducible exact H)
  have Ny315 := Aside0.mk hy315
  clear hy315
  have H' := Aside0.mk H
  clear H
  obtain ⟨Ao25, co25, eo25⟩ := Kd.R_slice HO_3.out
  subst eo25
  go_wp2_with ((((with_reducible refine gate_dst (N := 34) rfl ?_); refine Kd.R_lit (Kd.int .u8) _ 5 ?hg (N := 34) ?hd (xs := ([] : List Int)) (inner := []) (ok := fun _ => True) (okp := fun _ => True) ?hr ?hp (fun _ hk => hk) trivial (Below.refl _ _) (Nat.le_refl _) (by simp) ?_; (case hd => rfl); (case hg => rfl); (case hr => (go_simp; done)); (case hp => exact (Reps.none _ _)); intro v316 w26 ho27 hb hg_ hnew_; clear hg_ hnew_; (rw [← Ny315.out] at ho27); have n0_ := Aside0.mk (Kd.R_elder' (by exact HO_3.out) (Kd.R_base ho27) hb); have n1_ := Aside0.mk (Kd.R_below (by exact HO_4.out) hb); have n2_ := Aside0.mk (Kd.R_below (by exact HO_5.out) hb); have n3_ := Aside0.mk (Kd.R_lower (Kd.R_new' ho27 (Kd.R_lt (by exact HO_3.out))) (below_size HB.out)); have n4_ := Aside0.mk (below_step HB.out hb); clear HO_3; clear HO_4; clear HO_5; clear HB; have HO_3 := n0_; have HO_4 := n1_; have HO_5 := n2_; have HO317 := n3_; have HB := n4_; clear n0_ n1_ n2_ n3_ n4_; clear hb ho27)))
  go_loopg [7, 8] k1 (fun kq v7 v8 w' => ∃ (x7_2 : List Int) (x8_2 : Int), v8 = .int .i64 x8_2 ∧ Aside0 (notaryref03_Sum.l1 kq x5_1 x7_2 x8_2 = some r) ∧ Aside0 (kq ≤ k1) ∧ Aside0 (Kd.R (Kd.int .u32) 87 w' w.heap.size (fun _ => True) u5 x5_1) ∧ Aside0 (Kd.R (Kd.int .u8) 5 w' w.heap.size (fun _ => True) v7 x7_2) ∧ Aside0 (Below w.heap.size w w'))
  case atStart => exact ⟨(y315), (0), (by (rfl)), H', ⟨Nat.le_refl _⟩, ⟨by exact Kd.R_mono HO_5.out (fun _ hk => trivial)⟩, ⟨by exact Kd.R_mono HO317.out (fun _ hk => trivial)⟩, ⟨HB.out⟩⟩
  clear H'
  try clear c15b0
  obtain ⟨x7_2, x8_2, rfl, HA, HK2, HO_5, HO_7, HB⟩ := hrel
  rcases gk with _ | k2
  · exact absurd HA.out (by simp [notaryref03_Sum.l1])
  have H := HA.out
  clear HA
  simp only [notaryref03_Sum.l1] at H
  by_cases c28 : x8_2 < 8
  rotate_left
  · rw [if_neg c28] at H
    have c28b0 : decide (x8_2 < 8) = false := decide_eq_false c28
    clear c28
    obtain rfl := Option.some.inj H
    go_wp2
    go_ret
    exact ⟨_, by (rfl), by exact HO_7.out, HB.out⟩
  rw [if_pos c28] at H
  have c28b0 : decide (x8_2 < 8) = true := decide_eq_true c28
  clear c28
  by_cases c29 : 0 ≤ x8_2
  rotate_left
  · rw [if_neg c29] at H
    exact absurd H (by simp)
  rw [if_pos c29] at H
  have c29b0 : decide (0 ≤ x8_2) = true := decide_eq_true c29
  clear c29
  by_cases c30 : x8_2 < (x5_1.length : Int)
  rotate_left
  · rw [if_neg c30] at H
    exact absurd H (by simp)
  rw [if_pos c30] at H
  have c30b0 : decide (x8_2 < (x5_1.length : Int)) = true := decide_eq_true c30
  clear c30
  obtain ⟨y322, hy322⟩ : ∃ y_ : List Int, y_ = (([((Int.tdiv (rd x5_1 x8_2) 16777216) % 4294967296) % 256, ((Int.tdiv (rd x5_1 x8_2) 65536) % 4294967296) % 256, ((Int.tdiv (rd x5_1 x8_2) 256) % 4294967296) % 256, (Int.tmod (rd x5_1 x8_2) 256) % 256] : List Int)) := ⟨_, rfl⟩
  replace H : (if x7_2.length + y322.length < 140737488355328 then (notaryref03_Sum.l1 k2 x5_1 (x7_2 ++ y322) (wrap64 (x8_2 + 1))) else (none)) = some r := by ((have H2_ := (Option.bind_some _ _).symm.trans H; rw [hy322]; with_reducible exact H2_))
  have Ny322 := Aside0.mk hy322
  clear hy322
  by_cases c31 : x7_2.length + y322.length < 140737488355328
  rotate_left
  · rw [if_neg c31] at H
    exact absurd H (by simp)
  rw [if_pos c31] at H
  have LMc31 := Aside0.mk c31
  clear c31
  obtain ⟨y325, hy325⟩ : ∃ y_ : List Int, y_ = (x7_2 ++ y322) := ⟨_, rfl⟩
  replace H : (notaryref03_Sum.l1 k2 x5_1 y325 (wrap64 (x8_2 + 1))) = some r := by (rw [hy325]; with_reducible exact H)
  have Ny325 := Aside0.mk hy325
  clear hy325
  have H' := Aside0.mk H
  clear H
  try go_wp2
  have n0_ := Aside0.mk (Kd.R_drew HO_5.out)
  have n1_ := Aside0.mk (Kd.R_drew HO_7.out)
  have n2_ := Aside0.mk (below_drew1 HB.out)
  clear HO_5
  clear HO_7
  clear HB
  have HO_5 := n0_
  have HO_7 := n1_
  have HB := n2_
  clear n0_ n1_ n2_
  obtain ⟨Ao33, co33, eo33⟩ := Kd.R_slice HO_5.out
  (subst eo33)
  have p318 : 0 ≤ (x8_2 : Int) := of_decide_eq_true (by (with_reducible assumption))
  have q318 : x8_2 < (x5_1.length : Int) := of_decide_eq_true (by (with_reducible assumption))
  obtain ⟨ad318, e318, hx318_0⟩ := Kd.at_int (Kd.R_reads' HO_5.out).2.2 x8_2 p318 q318
  cases e318
  replace p318 := eq_true p318
  replace q318 := eq_true q318
  have p319 : 0 ≤ (x8_2 : Int) := of_decide_eq_true (by (with_reducible assumption))
  have q319 : x8_2 < (x5_1.length : Int) := of_decide_eq_true (by (with_reducible assumption))
  obtain ⟨ad319, e319, hx319_0⟩ := Kd.at_int (Kd.R_reads' HO_5.out).2.2 x8_2 p319 q319
  obtain rfl : ad318 = ad319 := (by injection e319)
  replace p319 := eq_true p319
  replace q319 := eq_true q319
  have p320 : 0 ≤ (x8_2 : Int) := of_decide_eq_true (by (with_reducible assumption))
  have q320 : x8_2 < (x5_1.length : Int) := of_decide_eq_true (by (with_reducible assumption))
  obtain ⟨ad320, e320, hx320_0⟩ := Kd.at_int (Kd.R_reads' HO_5.out).2.2 x8_2 p320 q320
  obtain rfl : ad318 = ad320 := (by injection e320)
  replace p320 := eq_true p320
  replace q320 := eq_true q320
  have p321 : 0 ≤ (x8_2 : Int) := of_decide_eq_true (by (with_reducible assumption))
  have q321 : x8_2 < (x5_1.length : Int) := of_decide_eq_true (by (with_reducible assumption))
  obtain ⟨ad321, e321, hx321_0⟩ := Kd.at_int (Kd.R_reads' HO_5.out).2.2 x8_2 p321 q321
  obtain rfl : ad318 = ad321 := (by injection e321)
  replace p321 := eq_true p321
  replace q321 := eq_true q321
  refine start_ (n := 30) (S := fun w' => w'.cell? (ad318.add (x8_2).toNat) = some (.int .u32 (rd x5_1 x8_2)) ∧ w'.cell? (ad318.add (x8_2).toNat) = some (.int .u32 (rd x5_1 x8_2)) ∧ w'.cell? (ad318.add (x8_2).toNat) = some (.int .u32 (rd x5_1 x8_2)) ∧ w'.cell? (ad318.add (x8_2).toNat) = some (.int .u32 (rd x5_1 x8_2))) (ds := [28]) (bl 30 0) (by kernel_rfl) rfl rfl ⟨hx318_0, hx319_0, hx320_0, hx321_0⟩ (fun hHeld => ?_); refine with_tabW notaryref03_Sum.tab13 notaryref03_Sum.bits13 (fun HT_ HW_ => ?_)
  generalize wr.drew = w32 at HO_5 HO_7 HB hx318_0 hx319_0 hx320_0 hx321_0 hHeld ⊢
  refine pure_ (i := 0) (N := some 39) (v := ?_) (a' := ?_) (bl 30 1) rfl rfl (any_of HT_.out (by kernel_rfl)) (fun _ _ _ h => h) (Or.inl ⟨by rfl, ?_⟩) ?_ ?_
  rotate_left
  · intro w'; go_simp; with_reducible rfl
  rotate_left
  · simp only [Act.put, sa_, sz_, ss_, i64_w, i32_w]; rfl
  refine pure_ (i := 1) (N := some 40) (v := ?_) (a' := ?_) (bl 30 3) rfl rfl (any_of HT_.out (by kernel_rfl)) (fun _ _ _ h => h) (Or.inl ⟨by rfl, ?_⟩) ?_ ?_
  rotate_left
  · intro w'; go_simp; with_reducible rfl
  rotate_left
  · simp only [Act.put, sa_, sz_, ss_, i64_w, i32_w]; rfl
  refine pure_ (i := 2) (N := some 41) (v := ?_) (a' := ?_) (bl 30 7) rfl rfl (any_of HT_.out (by kernel_rfl)) (fun _ _ _ h => h) (Or.inl ⟨by rfl, ?_⟩) ?_ ?_
  rotate_left
  · intro w'; go_simp; with_reducible rfl
  rotate_left
  · simp only [Act.put, sa_, sz_, ss_, i64_w, i32_w]; rfl
  refine pure_ (i := 3) (N := some 42) (v := ?_) (a' := ?_) (bl 30 15) rfl rfl (any_of HT_.out (by kernel_rfl)) (fun _ _ _ h => h) (Or.inl ⟨by rfl, ?_⟩) ?_ ?_
  rotate_left
  · intro w'; go_simp; with_reducible rfl
  rotate_left
  · simp only [Act.put, sa_, sz_, ss_, i64_w, i32_w]; rfl
  refine pure_ (i := 7) (N := some 46) (v := ?_) (a' := ?_) (bl 30 143) rfl rfl (any_of HT_.out (by kernel_rfl)) (fun _ _ _ h => h) (Or.inl ⟨by rfl, ?_⟩) ?_ ?_
  rotate_left
  · intro w'; go_simp; with_reducible rfl
  rotate_left
  · simp only [Act.put, sa_, sz_, ss_, i64_w, i32_w]; rfl
  refine pure_ (i := 8) (N := some 47) (v := ?_) (a' := ?_) (bl 30 399) rfl rfl (any_of HT_.out (by kernel_rfl)) (fun _ _ _ h => h) (Or.inl ⟨by rfl, ?_⟩) ?_ ?_
  rotate_left
  · intro w'; go_simp; with_reducible rfl
  rotate_left
  · simp only [Act.put, sa_, sz_, ss_, i64_w, i32_w]; rfl
  refine pure_ (i := 9) (N := some 48) (v := ?_) (a' := ?_) (bl 30 911) rfl rfl (any_of HT_.out (by kernel_rfl)) (fun _ _ _ h => h) (Or.inl ⟨by rfl, ?_⟩) ?_ ?_
  rotate_left
  · intro w'; go_simp; with_reducible rfl
  rotate_left
  · simp only [Act.put, sa_, sz_, ss_, i64_w, i32_w]; rfl
  refine pure_ (i := 14) (N := some 53) (v := ?_) (a' := ?_) (bl 30 17295) rfl rfl (any_of HT_.out (by kernel_rfl)) (fun _ _ _ h => h) (Or.inl ⟨by rfl, ?_⟩) ?_ ?_
  rotate_left
  · intro w'; go_simp; with_reducible rfl
  rotate_left
  · simp only [Act.put, sa_, sz_, ss_, i64_w, i32_w]; rfl
  refine pure_ (i := 15) (N := some 54) (v := ?_) (a' := ?_) (bl 30 50063) rfl rfl (any_of HT_.out (by kernel_rfl)) (fun _ _ _ h => h) (Or.inl ⟨by rfl, ?_⟩) ?_ ?_
  rotate_left
  · intro w'; go_simp; with_reducible rfl
  rotate_left
  · simp only [Act.put, sa_, sz_, ss_, i64_w, i32_w]; rfl
  refine pure_ (i := 16) (N := some 55) (v := ?_) (a' := ?_) (bl 30 115599) rfl rfl (any_of HT_.out (by kernel_rfl)) (fun _ _ _ h => h) (Or.inl ⟨by rfl, ?_⟩) ?_ ?_
  rotate_left
  · intro w'; go_simp; with_reducible rfl
  rotate_left
  · simp only [Act.put, sa_, sz_, ss_, i64_w, i32_w]; rfl
  refine pure_ (i := 21) (N := some 60) (v := ?_) (a' := ?_) (bl 30 2212751) rfl rfl (any_of HT_.out (by kernel_rfl)) (fun _ _ _ h => h) (Or.inl ⟨by rfl, ?_⟩) ?_ ?_
  rotate_left
  · intro w'; go_simp; with_reducible rfl
  rotate_left
  · simp only [Act.put, sa_, sz_, ss_, i64_w, i32_w]; rfl
  refine pure_ (i := 22) (N := some 61) (v := ?_) (a' := ?_) (bl 30 6407055) rfl rfl (any_of HT_.out (by kernel_rfl)) (fun _ _ _ h => h) (Or.inl ⟨by rfl, ?_⟩) ?_ ?_
  rotate_left
  · intro w'; go_simp; with_reducible rfl
  rotate_left
  · simp only [Act.put, sa_, sz_, ss_, i64_w, i32_w]; rfl
  refine pure_ (i := 23) (N := some 62) (v := ?_) (a' := ?_) (bl 30 14795663) rfl rfl (any_of HT_.out (by kernel_rfl)) (fun _ _ _ h => h) (Or.inl ⟨by rfl, ?_⟩) ?_ ?_
  rotate_left
  · intro w'; go_simp; with_reducible rfl
  rotate_left
  · simp only [Act.put, sa_, sz_, ss_, i64_w, i32_w]; rfl
  refine take_ (i := 4) (N := some 43) (v := ?_) (a' := ?_) (bl 30 14795679) rfl rfl (take_ofW HT_.out HW_.out (by kernel_rfl)) (fun _ _ _ h => h) (Or.inl ⟨by rfl, ?_⟩) hHeld ?_ ?_
  rotate_left
  · rintro w' ⟨s0, s1, s2, s3⟩
    go_simp
    with_reducible rfl
  rotate_left
  · simp only [Act.put, sa_, sz_, ss_, i64_w, i32_w]; rfl
  refine pure_ (i := 5) (N := some 44) (v := ?_) (a' := ?_) (bl 30 14795711) rfl rfl (any_of HT_.out (by kernel_rfl)) (fun _ _ _ h => h) (Or.inl ⟨by rfl, ?_⟩) ?_ ?_
  rotate_left
  · intro w'; go_simp; with_reducible rfl
  rotate_left
  · simp only [Act.put, sa_, sz_, ss_, i64_w, i32_w]; rfl
  refine pure_ (i := 6) (N := some 45) (v := ?_) (a' := ?_) (bl 30 14795775) rfl rfl (any_of HT_.out (by kernel_rfl)) (fun _ _ _ h => h) (Or.inl ⟨by rfl, ?_⟩) ?_ ?_
  rotate_left
  · intro w'; go_simp; with_reducible rfl
  rotate_left
  · simp only [Act.put, sa_, sz_, ss_, i64_w, i32_w]; rfl
  refine take_ (i := 10) (N := some 49) (v := ?_) (a' := ?_) (bl 30 14796799) rfl rfl (take_ofW HT_.out HW_.out (by kernel_rfl)) (fun _ _ _ h => h) (Or.inl ⟨by rfl, ?_⟩) hHeld ?_ ?_
  rotate_left
  · rintro w' ⟨s0, s1, s2, s3⟩
    go_simp
    with_reducible rfl
  rotate_left
  · simp only [Act.put, sa_, sz_, ss_, i64_w, i32_w]; rfl
  refine pure_ (i := 11) (N := some 50) (v := ?_) (a' := ?_) (bl 30 14798847) rfl rfl (any_of HT_.out (by kernel_rfl)) (fun _ _ _ h => h) (Or.inl ⟨by rfl, ?_⟩) ?_ ?_
  rotate_left
  · intro w'; go_simp; with_reducible rfl
  rotate_left
  · simp only [Act.put, sa_, sz_, ss_, i64_w, i32_w]; rfl
  refine pure_ (i := 12) (N := some 51) (v := ?_) (a' := ?_) (bl 30 14802943) rfl rfl (any_of HT_.out (by kernel_rfl)) (fun _ _ _ h => h) (Or.inl ⟨by rfl, ?_⟩) ?_ ?_
  rotate_left
  · intro w'; go_simp; with_reducible rfl
  rotate_left
  · simp only [Act.put, sa_, sz_, ss_, i64_w, i32_w]; rfl
  refine pure_ (i := 13) (N := some 52) (v := ?_) (a' := ?_) (bl 30 14811135) rfl rfl (any_of HT_.out (by kernel_rfl)) (fun _ _ _ h => h) (Or.inl ⟨by rfl, ?_⟩) ?_ ?_
  rotate_left
  · intro w'; go_simp; with_reducible rfl
  rotate_left
  · simp only [Act.put, sa_, sz_, ss_, i64_w, i32_w]; rfl
  refine take_ (i := 17) (N := some 56) (v := ?_) (a' := ?_) (bl 30 14942207) rfl rfl (take_ofW HT_.out HW_.out (by kernel_rfl)) (fun _ _ _ h => h) (Or.inl ⟨by rfl, ?_⟩) hHeld ?_ ?_
  rotate_left
  · rintro w' ⟨s0, s1, s2, s3⟩
    go_simp
    with_reducible rfl
  rotate_left
  · simp only [Act.put, sa_, sz_, ss_, i64_w, i32_w]; rfl
  refine pure_ (i := 18) (N := some 57) (v := ?_) (a' := ?_) (bl 30 15204351) rfl rfl (any_of HT_.out (by kernel_rfl)) (fun _ _ _ h => h) (Or.inl ⟨by rfl, ?_⟩) ?_ ?_
  rotate_left
  · intro w'; go_simp; with_reducible rfl
  rotate_left
  · simp only [Act.put, sa_, sz_, ss_, i64_w, i32_w]; rfl
  refine pure_ (i := 19) (N := some 58) (v := ?_) (a' := ?_) (bl 30 15728639) rfl rfl (any_of HT_.out (by kernel_rfl)) (fun _ _ _ h => h) (Or.inl ⟨by rfl, ?_⟩) ?_ ?_
  rotate_left
  · intro w'; go_simp; with_reducible rfl
  rotate_left
  · simp only [Act.put, sa_, sz_, ss_, i64_w, i32_w]; rfl
  refine pure_ (i := 20) (N := some 59) (v := ?_) (a' := ?_) (bl 30 16777215) rfl rfl (any_of HT_.out (by kernel_rfl)) (fun _ _ _ h => h) (Or.inl ⟨by rfl, ?_⟩) ?_ ?_
  rotate_left
  · intro w'; go_simp; with_reducible rfl
  rotate_left
  · simp only [Act.put, sa_, sz_, ss_, i64_w, i32_w]; rfl
  refine take_ (i := 24) (N := some 63) (v := ?_) (a' := ?_) (bl 30 33554431) rfl rfl (take_ofW HT_.out HW_.out (by kernel_rfl)) (fun _ _ _ h => h) (Or.inl ⟨by rfl, ?_⟩) hHeld ?_ ?_
  rotate_left
  · rintro w' ⟨s0, s1, s2, s3⟩
    go_simp
    with_reducible rfl
  rotate_left
  · simp only [Act.put, sa_, sz_, ss_, i64_w, i32_w]; rfl
  refine pure_ (i := 25) (N := some 64) (v := ?_) (a' := ?_) (bl 30 67108863) rfl rfl (any_of HT_.out (by kernel_rfl)) (fun _ _ _ h => h) (Or.inl ⟨by rfl, ?_⟩) ?_ ?_
  rotate_left
  · intro w'; go_simp; with_reducible rfl
  rotate_left
  · simp only [Act.put, sa_, sz_, ss_, i64_w, i32_w]; rfl
  refine pure_ (i := 26) (N := some 65) (v := ?_) (a' := ?_) (bl 30 134217727) rfl rfl (any_of HT_.out (by kernel_rfl)) (fun _ _ _ h => h) (Or.inl ⟨by rfl, ?_⟩) ?_ ?_
  rotate_left
  · intro w'; go_simp; with_reducible rfl
  rotate_left
  · simp only [Act.put, sa_, sz_, ss_, i64_w, i32_w]; rfl
  refine one_ (i := 27) (N := some 66) (bl 30 268435455) rfl rfl (one_of HT_.out (by kernel_rfl)) (by decide) (fun K hK => ?_)
  refine Kd.R_lit_step (Kd.int .u8) _ 5 ?hg (N := 66) ?hd (xs := ([((Int.tdiv (rd x5_1 x8_2) 16777216) % 4294967296) % 256, ((Int.tdiv (rd x5_1 x8_2) 65536) % 4294967296) % 256, ((Int.tdiv (rd x5_1 x8_2) 256) % 4294967296) % 256, (Int.tmod (rd x5_1 x8_2) 256) % 256] : List Int)) (inner := [.int .u8 (((Int.tdiv (rd x5_1 x8_2) 16777216) % 4294967296) % 256), .int .u8 (((Int.tdiv (rd x5_1 x8_2) 65536) % 4294967296) % 256), .int .u8 (((Int.tdiv (rd x5_1 x8_2) 256) % 4294967296) % 256), .int .u8 ((Int.tmod (rd x5_1 x8_2) 256) % 256)]) (ok := fun _ => True) (okp := fun _ => True) ?hr ?hp (fun _ hk => hk) trivial (Below.refl _ _) (Nat.le_refl _) (by simp) ?_; (case hd => rfl); (case hg => rfl); (case hr => ((go_simp; simp only [IntKind.wrap_u8, IntKind.wrap_u32, (fun x => Int.tmod_eq_emod_of_nonneg (Int.emod_nonneg x (by decide)) : ∀ x : Int, (x % 4294967296).tmod 256 = x % 4294967296 % 256), Int.emod_emod_of_dvd _ (show (256 : Int) ∣ 4294967296 by decide), Int.emod_emod]; done))); (case hp => exact (Reps.one (show Kd.M (Kd.int .u8) _ _ _ (((Int.tdiv (rd x5_1 x8_2) 16777216) % 4294967296) % 256) [.int .u8 (((Int.tdiv (rd x5_1 x8_2) 16777216) % 4294967296) % 256)] from rfl) (Reps.one (show Kd.M (Kd.int .u8) _ _ _ (((Int.tdiv (rd x5_1 x8_2) 65536) % 4294967296) % 256) [.int .u8 (((Int.tdiv (rd x5_1 x8_2) 65536) % 4294967296) % 256)] from rfl) (Reps.one (show Kd.M (Kd.int .u8) _ _ _ (((Int.tdiv (rd x5_1 x8_2) 256) % 4294967296) % 256) [.int .u8 (((Int.tdiv (rd x5_1 x8_2) 256) % 4294967296) % 256)] from rfl) (Reps.one (show Kd.M (Kd.int .u8) _ _ _ ((Int.tmod (rd x5_1 x8_2) 256) % 256) [.int .u8 ((Int.tmod (rd x5_1 x8_2) 256) % 256)] from rfl) (Reps.none _ _))))))
  intro v323 w34 ho35 hb hg_ hnew_
  have HS0_ := (hb.cell (World.block_lt_of_cell? _ _ (hHeld.1))).trans (hHeld.1)
  have HS1_ := (hb.cell (World.block_lt_of_cell? _ _ (hHeld.2.1))).trans (hHeld.2.1)
  have HS2_ := (hb.cell (World.block_lt_of_cell? _ _ (hHeld.2.2.1))).trans (hHeld.2.2.1)
  have HS3_ := (hb.cell (World.block_lt_of_cell? _ _ (hHeld.2.2.2))).trans (hHeld.2.2.2)
  clear hg_ hnew_
  (rw [← Ny322.out] at ho35)
  have n0_ := Aside0.mk (Kd.R_below (by exact HO_5.out) hb)
  have n1_ := Aside0.mk (Kd.R_elder' (by exact HO_7.out) (Kd.R_base ho35) hb)
  have n2_ := Aside0.mk (Kd.R_lower (Kd.R_new' ho35 (Kd.R_lt (by exact HO_7.out))) (below_size HB.out))
  have n3_ := Aside0.mk (below_step HB.out hb)
  clear HO_5
  clear HO_7
  clear HB
  have HO_5 := n0_
  have HO_7 := n1_
  have HO324 := n2_
  have HB := n3_
  clear n0_ n1_ n2_ n3_
  clear hb ho35
  obtain ⟨Ao37, co37, eo37⟩ := Kd.R_slice HO324.out
  (subst eo37)
  refine hK.out _ _ ⟨HS0_, HS1_, HS2_, HS3_⟩ (fun hHeld => ?_)
  clear hK K
  refine norm_ (a' := ?_) ?_ ?_
  rotate_left
  · show Act.put _ (some 66) _ = _
    simp only [Act.put, sa_, sz_, ss_, i64_w, i32_w]
    rfl
  refine last_ (i := 28) (N := some 67) (bl 30 536870911) rfl rfl (one_of HT_.out (by kernel_rfl)) (by decide) (fun K hK => ?_)
  refine Kd.R_append_rows_step (Kd.int .u8) (w0 := w) w.heap.size (by rfl) (.tmp 39) (.tmp 66) 22 5 (.int .u8 0) 1 rfl Try.underlying22 info5 rfl (by decide) (by omega) u7 x7_2 y322 _ _ _ (fun k_ => some k_ ≠ (.slice Ao37 y322.length co37 : Value).ownBlock) (fun _ => False) rfl rfl ?aO ?aR (fun _ _ h => h) (fun _ h => h.elim) ?aF ?aB ?aS ?aL ?_
  (case aR => repeat ((exact (Kd.R_reads' HO324.out).2.2)))
  (case aB => exact HB.out)
  (case aF => exact (fun k_ hk => Kd.fresh' (Kd.R_lt (by exact HO324.out)) k_ hk))
  (case aO => exact (by exact Kd.R_mono HO_7.out (fun _ hk => hk.2)))
  (case aS => exact (below_size HB.out))
  (case aL => have := LMc31.out; omega)
  intro v326 w36 ho hb hg hat
  rw [← Ny325.out] at ho
  have n0_ := Aside0.mk (Kd.R_over' (by exact HO_5.out) (Kd.R_typed (by exact HO_7.out)) (by decide) hg)
  have n1_ := Aside0.mk (Kd.R_after (ok := (fun _ => True)) (by exact HO324.out) hg hat)
  have n2_ := Aside0.mk (hb)
  have n3_ := Aside0.mk (ho)
  clear HO_5
  clear HO324
  clear HB
  clear HO_7
  have HO_5 := n0_
  have HO324 := n1_
  have HB := n2_
  have HO327 := n3_
  clear n0_ n1_ n2_ n3_
  clear ho hb hg hat
  refine hK.out _ _ ?_
  clear hK K
  refine norm_ (a' := ?_) ?_ ?_
  rotate_left
  · show Act.put _ (some 67) _ = _
    simp only [Act.put, sa_, sz_, ss_, i64_w, i32_w]
    rfl
  refine pure_ (i := 29) (N := some 7) (v := ?_) (a' := ?_) (bl 30 1073741823) rfl rfl (any_of HT_.out (by kernel_rfl)) (fun _ _ _ h => h) (Or.inl ⟨by rfl, ?_⟩) ?_ ?_
  rotate_left
  · intro w'; go_simp; with_reducible rfl
  rotate_left
  · simp only [Act.put, sa_, sz_, ss_, i64_w, i32_w]; rfl
  refine done_ (done_of HT_.out (by kernel_rfl)) ?_
  try go_wp2
  go_roundg k2
  case measure => have := HK1.out; have := HK2.out; omega
  case rel => exact ⟨(y325), (wrap64 (x8_2 + 1)), (by (rfl)), H', ⟨by have := HK1.out; have := HK2.out; omega⟩, ⟨by exact HO_5.out⟩, ⟨by exact Kd.R_mono HO327.out (fun _ hk => trivial)⟩, ⟨HB.out⟩⟩/-! ### notaryref04_Block: function 70 (given) -/
def notaryref04_Block.cell (kb : List Int) (c : Int) (i : Nat) : Int := if i < kb.length then Go.bits .xor .u8 (rd kb (i : Int)) c else c
def notaryref04_Block.row (kb : List Int) (c : Int) (n : Nat) : List Int := (List.range n).map (notaryref04_Block.cell kb c)
def notaryref04_Block.f (k : Nat) (l : List Int) (c : Int) : Option (List Int) :=
  (if 64 < l.length then notaryref03_Sum.f k l else some l).bind fun kb => some (notaryref04_Block.row kb c 64)
theorem notaryref04_Block.row_succ (kb : List Int) (c : Int) (n : Nat) : notaryref04_Block.row kb c (n + 1) = notaryref04_Block.row kb c n ++ [notaryref04_Block.cell kb c n] := by
  simp [notaryref04_Block.row, List.range_succ]
theorem notaryref04_Block.row_length (kb : List Int) (c : Int) (n : Nat) : (notaryref04_Block.row kb c n).length = n := by simp [notaryref04_Block.row]
set_option maxHeartbeats 8000000 in
set_option maxRecDepth 100000 in
theorem notaryref04_Block.calls (k : Nat) (A0 : Option Addr) (c0 : Nat) (l0 : List Int) (a1 : Int) (r : List Int) (w : World) (hr0 : Kd.C (Kd.int .u8) w A0 l0.length l0) (hc0 : l0.length ≤ c0) (h : notaryref04_Block.f k l0 a1 = some r) :
    Calls Try.prog 70 #[.slice A0 l0.length c0, .int .u8 a1] w fun e w' => ∃ v0_ : Value, e = .returned (v0_) ∧ Kd.R (Kd.int .u8) 5 w' w.heap.size (fun _ => True) v0_ r ∧ Below w.heap.size w w' := by
  have HR := Aside0.mk hr0
  have HC := Aside0.mk hc0
  obtain ⟨kb, hkb, hrow⟩ := Option.bind_eq_some_iff.mp h
  obtain rfl := Option.some.inj hrow
  clear hr0 hc0 h hrow
  go_enter Try.func70, Try.ntmps70
  by_cases hbig : 64 < l0.length
  · rw [if_pos hbig] at hkb
    have HKB := Aside0.mk hkb
    have hd : decide (64 < (l0.length : Int)) = true := decide_eq_true (by omega)
    have hd2 : decide (64 < l0.length) = true := decide_eq_true (by omega)
    clear hkb hbig
    go_wp2_with (first | (go_at_call 71; (with_reducible refine (notaryref03_Sum.calls k A0 c0 l0 kb _ HR.out HC.out HKB.out).mono ?_); rintro e W1 ⟨v5, rfl, ho5, hb5⟩; (obtain ⟨A5, c5, e5⟩ := Kd.R_slice ho5); subst e5; (have HC5 : Aside0 (Kd.C (Kd.int .u8) W1 A5 kb.length kb) := ⟨(Kd.R_reads' ho5).2.2⟩); (have HB1 : Aside0 (Below w.heap.size w W1) := ⟨hb5⟩); clear ho5 hb5) | ((with_reducible refine gate_dst (N := 14) rfl ?_); refine Kd.R_lit (Kd.int .u8) W1.heap.size 5 ?hg (N := 14) ?hd (w0 := W1) (xs := ([] : List Int)) (inner := []) (ok := fun _ => True) (okp := fun _ => True) ?hr ?hp (fun _ hk => hk) trivial (Below.refl _ _) (Nat.le_refl _) (by simp) ?_; (case hd => rfl); (case hg => rfl); (case hr => (go_simp; done)); (case hp => exact (Reps.none _ _)); intro v6 W2 ho2 hb2 hg2 hat2; (have HO2 : Aside0 (Kd.R (Kd.int .u8) 5 W2 W1.heap.size (fun _ => True) v6 (notaryref04_Block.row kb a1 0)) := ⟨ho2⟩); (have HB2 : Aside0 (Below W1.heap.size W1 W2) := ⟨hb2⟩); clear ho2 hb2 hg2 hat2))
    clear HR HC hd hd2 HKB
    go_loopg [6, 7] 64 (fun q v6 v7 w' => ∃ i : Nat, v7 = .int .i64 (i : Int) ∧ i + q = 64 ∧ Aside0 (Kd.R (Kd.int .u8) 5 w' W1.heap.size (fun _ => True) v6 (notaryref04_Block.row kb a1 i)) ∧ Aside0 (Below W1.heap.size W1 w'))
    case atStart => exact ⟨0, by go_num, by omega, HO2, HB2⟩
    case round =>
      clear HO2 HB2
      obtain ⟨i, rfl, hiq, HO, HB⟩ := hrel
      cases gk with
      | zero =>
        obtain rfl : i = 64 := by omega
        have hjb : decide (((64 : Nat) : Int) < 64) = false := by decide
        go_wp2
        go_ret
        exact ⟨_, rfl, Kd.R_lower HO.out HB1.out.size, below_step HB1.out HB.out⟩
      | succ q =>
        have hin : (i : Int) < 64 := by omega
        have hjb : decide ((i : Int) < 64) = true := decide_eq_true hin
        have HDL : Aside0 ((notaryref04_Block.row kb a1 i).length = i ∧ i < 64) := ⟨notaryref04_Block.row_length _ _ _, by omega⟩
        have HS := Aside0.mk (notaryref04_Block.row_succ kb a1 i)
        by_cases hik : i < kb.length
        · have hk1 : decide ((i : Int) < (kb.length : Int)) = true := decide_eq_true (by omega)
          have hk2 : decide (i < kb.length) = true := decide_eq_true hik
          have hC := Kd.C_below HC5.out HB.out
          obtain ⟨ad, eA, hcell⟩ := Kd.at_int hC (i : Int) (by omega) (by omega)
          subst eA
          rw [Int.toNat_natCast] at hcell
          have HE : Aside0 (notaryref04_Block.cell kb a1 i = Go.bits .xor .u8 (rd kb (i : Int)) a1) := ⟨by unfold notaryref04_Block.cell; rw [if_pos hik]⟩
          clear hC
          generalize notaryref04_Block.row kb a1 i = d at *
          generalize rd kb (i : Int) = z at *
          go_wp2_with ((with_reducible refine gate_builtin (b := .append) (xs := #[.tmp 23, .tmp 30]) rfl ?_); at_builtin; refine Kd.R_append (Kd.int .u8) (w0 := W1) W1.heap.size rfl (.tmp 23) (.tmp 30) 22 5 (.int .u8 0) 1 rfl Try.underlying22 info5 rfl (by decide) (by omega) _ d (Go.bits .xor .u8 z a1) [.int .u8 (Go.bits .xor .u8 z a1)] (fun _ => True) (fun _ => False) rfl rfl rfl (fun _ hk => hk.elim) (fun _ _ => trivial) HO.out HB.out HB.out.size (by have := HDL.out; omega) ?_; intro vn wn ho hb hg hat; (have HO3 : Aside0 (Kd.R (Kd.int .u8) 5 wn W1.heap.size (fun _ => True) vn (d ++ [(Go.bits .xor .u8 z a1)])) := ⟨ho⟩); (have HB3 : Aside0 (Below W1.heap.size W1 wn) := ⟨hb⟩); clear ho hb hg hat HO HB)
          go_roundg q
          case measure => omega
          case rel => exact ⟨i + 1, by go_num, by omega, by rw [HS.out, HE.out]; exact HO3, HB3⟩
        · have hk1 : decide ((i : Int) < (kb.length : Int)) = false := decide_eq_false (by omega)
          have hk2 : decide (i < kb.length) = false := decide_eq_false hik
          have HE : Aside0 (notaryref04_Block.cell kb a1 i = a1) := ⟨by unfold notaryref04_Block.cell; rw [if_neg hik]⟩
          generalize notaryref04_Block.row kb a1 i = d at *
          go_wp2_with ((with_reducible refine gate_builtin (b := .append) (xs := #[.tmp 32, .tmp 34]) rfl ?_); at_builtin; refine Kd.R_append (Kd.int .u8) (w0 := W1) W1.heap.size rfl (.tmp 32) (.tmp 34) 22 5 (.int .u8 0) 1 rfl Try.underlying22 info5 rfl (by decide) (by omega) _ d a1 [.int .u8 a1] (fun _ => True) (fun _ => False) rfl rfl rfl (fun _ hk => hk.elim) (fun _ _ => trivial) HO.out HB.out HB.out.size (by have := HDL.out; omega) ?_; intro vn wn ho hb hg hat; (have HO3 : Aside0 (Kd.R (Kd.int .u8) 5 wn W1.heap.size (fun _ => True) vn (d ++ [a1])) := ⟨ho⟩); (have HB3 : Aside0 (Below W1.heap.size W1 wn) := ⟨hb⟩); clear ho hb hg hat HO HB)
          go_roundg q
          case measure => omega
          case rel => exact ⟨i + 1, by go_num, by omega, by rw [HS.out, HE.out]; exact HO3, HB3⟩
  · rw [if_neg hbig] at hkb
    obtain rfl := Option.some.inj hkb
    have hd : decide (64 < (l0.length : Int)) = false := decide_eq_false (by omega)
    have hd2 : decide (64 < l0.length) = false := decide_eq_false (by omega)
    clear hkb hbig
    obtain ⟨W1, rfl⟩ : ∃ wo : World, wo = w := ⟨_, rfl⟩
    obtain ⟨kb, rfl⟩ : ∃ kb, kb = l0 := ⟨_, rfl⟩
    have HC5 := HR
    have HB1 : Aside0 (Below W1.heap.size W1 W1) := ⟨Below.refl _ _⟩
    go_wp2_with ((with_reducible refine gate_dst (N := 14) rfl ?_); refine Kd.R_lit (Kd.int .u8) W1.heap.size 5 ?hg (N := 14) ?hd (w0 := W1) (xs := ([] : List Int)) (inner := []) (ok := fun _ => True) (okp := fun _ => True) ?hr ?hp (fun _ hk => hk) trivial (Below.refl _ _) (Nat.le_refl _) (by simp) ?_; (case hd => rfl); (case hg => rfl); (case hr => (go_simp; done)); (case hp => exact (Reps.none _ _)); intro v6 W2 ho2 hb2 hg2 hat2; (have HO2 : Aside0 (Kd.R (Kd.int .u8) 5 W2 W1.heap.size (fun _ => True) v6 (notaryref04_Block.row kb a1 0)) := ⟨ho2⟩); (have HB2 : Aside0 (Below W1.heap.size W1 W2) := ⟨hb2⟩); clear ho2 hb2 hg2 hat2)
    clear HR HC hd hd2
    go_loopg [6, 7] 64 (fun q v6 v7 w' => ∃ i : Nat, v7 = .int .i64 (i : Int) ∧ i + q = 64 ∧ Aside0 (Kd.R (Kd.int .u8) 5 w' W1.heap.size (fun _ => True) v6 (notaryref04_Block.row kb a1 i)) ∧ Aside0 (Below W1.heap.size W1 w'))
    case atStart => exact ⟨0, by go_num, by omega, HO2, HB2⟩
    case round =>
      clear HO2 HB2
      obtain ⟨i, rfl, hiq, HO, HB⟩ := hrel
      cases gk with
      | zero =>
        obtain rfl : i = 64 := by omega
        have hjb : decide (((64 : Nat) : Int) < 64) = false := by decide
        go_wp2
        go_ret
        exact ⟨_, rfl, Kd.R_lower HO.out HB1.out.size, below_step HB1.out HB.out⟩
      | succ q =>
        have hin : (i : Int) < 64 := by omega
        have hjb : decide ((i : Int) < 64) = true := decide_eq_true hin
        have HDL : Aside0 ((notaryref04_Block.row kb a1 i).length = i ∧ i < 64) := ⟨notaryref04_Block.row_length _ _ _, by omega⟩
        have HS := Aside0.mk (notaryref04_Block.row_succ kb a1 i)
        by_cases hik : i < kb.length
        · have hk1 : decide ((i : Int) < (kb.length : Int)) = true := decide_eq_true (by omega)
          have hk2 : decide (i < kb.length) = true := decide_eq_true hik
          have hC := Kd.C_below HC5.out HB.out
          obtain ⟨ad, eA, hcell⟩ := Kd.at_int hC (i : Int) (by omega) (by omega)
          subst eA
          rw [Int.toNat_natCast] at hcell
          have HE : Aside0 (notaryref04_Block.cell kb a1 i = Go.bits .xor .u8 (rd kb (i : Int)) a1) := ⟨by unfold notaryref04_Block.cell; rw [if_pos hik]⟩
          clear hC
          generalize notaryref04_Block.row kb a1 i = d at *
          generalize rd kb (i : Int) = z at *
          go_wp2_with ((with_reducible refine gate_builtin (b := .append) (xs := #[.tmp 23, .tmp 30]) rfl ?_); at_builtin; refine Kd.R_append (Kd.int .u8) (w0 := W1) W1.heap.size rfl (.tmp 23) (.tmp 30) 22 5 (.int .u8 0) 1 rfl Try.underlying22 info5 rfl (by decide) (by omega) _ d (Go.bits .xor .u8 z a1) [.int .u8 (Go.bits .xor .u8 z a1)] (fun _ => True) (fun _ => False) rfl rfl rfl (fun _ hk => hk.elim) (fun _ _ => trivial) HO.out HB.out HB.out.size (by have := HDL.out; omega) ?_; intro vn wn ho hb hg hat; (have HO3 : Aside0 (Kd.R (Kd.int .u8) 5 wn W1.heap.size (fun _ => True) vn (d ++ [(Go.bits .xor .u8 z a1)])) := ⟨ho⟩); (have HB3 : Aside0 (Below W1.heap.size W1 wn) := ⟨hb⟩); clear ho hb hg hat HO HB)
          go_roundg q
          case measure => omega
          case rel => exact ⟨i + 1, by go_num, by omega, by rw [HS.out, HE.out]; exact HO3, HB3⟩
        · have hk1 : decide ((i : Int) < (kb.length : Int)) = false := decide_eq_false (by omega)
          have hk2 : decide (i < kb.length) = false := decide_eq_false hik
          have HE : Aside0 (notaryref04_Block.cell kb a1 i = a1) := ⟨by unfold notaryref04_Block.cell; rw [if_neg hik]⟩
          generalize notaryref04_Block.row kb a1 i = d at *
          go_wp2_with ((with_reducible refine gate_builtin (b := .append) (xs := #[.tmp 32, .tmp 34]) rfl ?_); at_builtin; refine Kd.R_append (Kd.int .u8) (w0 := W1) W1.heap.size rfl (.tmp 32) (.tmp 34) 22 5 (.int .u8 0) 1 rfl Try.underlying22 info5 rfl (by decide) (by omega) _ d a1 [.int .u8 a1] (fun _ => True) (fun _ => False) rfl rfl rfl (fun _ hk => hk.elim) (fun _ _ => trivial) HO.out HB.out HB.out.size (by have := HDL.out; omega) ?_; intro vn wn ho hb hg hat; (have HO3 : Aside0 (Kd.R (Kd.int .u8) 5 wn W1.heap.size (fun _ => True) vn (d ++ [a1])) := ⟨ho⟩); (have HB3 : Aside0 (Below W1.heap.size W1 wn) := ⟨hb⟩); clear ho hb hg hat HO HB)
          go_roundg q
          case measure => omega
          case rel => exact ⟨i + 1, by go_num, by omega, by rw [HS.out, HE.out]; exact HO3, HB3⟩

/-! ### notaryref04_Tag: function 60 -/
def notaryref04_Tag.f (k : Nat) (l0 : List Int) (l1 : List Int) : Option (List Int) := (notaryref04_Block.f k l0 54).bind fun t328 => (if t328.length + l1.length < 140737488355328 then ((notaryref04_Block.f k l0 92).bind fun t334 => ((notaryref03_Sum.f k (t328 ++ l1)).bind fun t337 => (if t334.length + t337.length < 140737488355328 then ((notaryref03_Sum.f k (t334 ++ t337)).bind fun t343 => (some t343)) else (none)))) else (none))
set_option maxHeartbeats 8000000 in
set_option maxRecDepth 100000 in
theorem notaryref04_Tag.calls (k : Nat) (A0 : Option Addr) (c0 : Nat) (l0 : List Int) (A1 : Option Addr) (c1 : Nat) (l1 : List Int) (r : List Int) (w : World) (hr0 : Kd.C (Kd.int .u8) w A0 l0.length l0) (hc0 : l0.length ≤ c0) (hr1 : Kd.C (Kd.int .u8) w A1 l1.length l1) (hc1 : l1.length ≤ c1) (h : notaryref04_Tag.f k l0 l1 = some r) :
    Calls Try.prog 60 #[.slice A0 l0.length c0, .slice A1 l1.length c1] w fun e w' => ∃ v0_ : Value, e = .returned (v0_) ∧ Kd.R (Kd.int .u8) 5 w' w.heap.size (fun _ => True) v0_ r ∧ Below w.heap.size w w' := by
  have HR0 := Aside0.mk hr0
  have HC0 := Aside0.mk hc0
  clear hr0 hc0
  have HR1 := Aside0.mk hr1
  have HC1 := Aside0.mk hc1
  clear hr1 hc1
  have HB := Aside0.mk (Below.refl w.heap.size w)
  have H : ((notaryref04_Block.f k l0 54).bind fun t328 => (if t328.length + l1.length < 140737488355328 then ((notaryref04_Block.f k l0 92).bind fun t334 => ((notaryref03_Sum.f k (t328 ++ l1)).bind fun t337 => (if t334.length + t337.length < 140737488355328 then ((notaryref03_Sum.f k (t334 ++ t337)).bind fun t343 => (some t343)) else (none)))) else (none))) = some r := h
  clear h
  replace H := Option.bind_eq_some_iff.mp H
  obtain ⟨t328, A30, H⟩ := H
  replace H : (if t328.length + l1.length < 140737488355328 then ((notaryref04_Block.f k l0 92).bind fun t334 => ((notaryref03_Sum.f k (t328 ++ l1)).bind fun t337 => (if t334.length + t337.length < 140737488355328 then ((notaryref03_Sum.f k (t334 ++ t337)).bind fun t343 => (some t343)) else (none)))) else (none)) = some r := H
  have A3 := Aside0.mk A30
  clear A30
  by_cases c4 : t328.length + l1.length < 140737488355328
  rotate_left
  · rw [if_neg c4] at H
    exact absurd H (by simp)


  rw [if_pos c4] at H
  have LMc4 := Aside0.mk c4
  clear c4
  obtain ⟨y331, hy331⟩ : ∃ y_ : List Int, y_ = (t328 ++ l1) := ⟨_, rfl⟩
  replace H : ((notaryref04_Block.f k l0 92).bind fun t334 => ((notaryref03_Sum.f k y331).bind fun t337 => (if t334.length + t337.length < 140737488355328 then ((notaryref03_Sum.f k (t334 ++ t337)).bind fun t343 => (some t343)) else (none)))) = some r := by (rw [hy331]; with_reducible exact H)
  have Ny331 := Aside0.mk hy331
  clear hy331
  replace H := Option.bind_eq_some_iff.mp H
  obtain ⟨t334, A50, H⟩ := H
  replace H : ((notaryref03_Sum.f k y331).bind fun t337 => (if t334.length + t337.length < 140737488355328 then ((notaryref03_Sum.f k (t334 ++ t337)).bind fun t343 => (some t343)) else (none))) = some r := H
  have A5 := Aside0.mk A50
  clear A50
  replace H := Option.bind_eq_some_iff.mp H
  obtain ⟨t337, A60, H⟩ := H
  replace H : (if t334.length + t337.length < 140737488355328 then ((notaryref03_Sum.f k (t334 ++ t337)).bind fun t343 => (some t343)) else (none)) = some r := H
  have A6 := Aside0.mk A60
  clear A60
  by_cases c7 : t334.length + t337.length < 140737488355328
  rotate_left
  · rw [if_neg c7] at H
    exact absurd H (by simp)
  rw [if_pos c7] at H
  have LMc7 := Aside0.mk c7
  clear c7
  obtain ⟨y340, hy340⟩ : ∃ y_ : List Int, y_ = (t334 ++ t337) := ⟨_, rfl⟩
  replace H : ((notaryref03_Sum.f k y340).bind fun t343 => (some t343)) = some r := by (rw [hy340]; with_reducible exact H)
  have Ny340 := Aside0.mk hy340
  clear hy340
  replace H := Option.bind_eq_some_iff.mp H
  obtain ⟨t343, A80, H⟩ := H
  replace H : (some t343) = some r := H
  have A8 := Aside0.mk A80
  clear A80
  obtain rfl := Option.some.inj H
  go_enter Try.func60, Try.ntmps60
  go_wp2_with (first | ((with_reducible refine gate_callee (f := 70) rfl ?_); refine goesL_ (some 8) rfl rfl Try.func70 (by kernel_rfl) rfl #[.slice A0 l0.length c0, .int .u8 54] rfl (by (try simp only [List.map_toArray, List.map_cons, List.map_nil]); (rfl)) ?_; (with_reducible refine (notaryref04_Block.calls k _ _ l0 54 t328 _ ?side1 ?side2 A3.out).mono ?_); (case side1 => repeat (exact HR0.out)); (case side2 => exact HC0.out); rintro e w9 ⟨v329, rfl, ho0, hb⟩; refine ⟨_, rfl, ?_⟩; have n0_ := Aside0.mk (Kd.R_lower ho0 (below_size HB.out)); have n1_ := Aside0.mk (below_step HB.out hb); clear HB; have HO330 := n0_; have HB := n1_; clear n0_ n1_; (try clear hb); (try clear ho0)) | ((with_reducible refine gate_builtin (b := .append) (xs := #[.tmp 8, .tmp 9]) rfl ?_); at_builtin; refine Kd.R_append_rows (Kd.int .u8) (w0 := w) w.heap.size rfl (.tmp 8) (.tmp 9) 22 5 (.int .u8 0) 1 rfl Try.underlying22 info5 rfl (by decide) (by omega) v329 t328 l1 _ _ _ (fun _ => True) (fun _ => False) rfl rfl ?aO ?aR (fun _ _ h => h) (fun _ h => h.elim) ?aF ?aB ?aS ?aL ?_; (case aR => exact Kd.C_below HR1.out HB.out); (case aB => exact HB.out); (case aF => exact (fun _ _ => trivial)); (case aO => exact (by exact HO330.out)); (case aS => exact (below_size HB.out)); (case aL => have := LMc4.out; omega); intro v332 w10 ho hb hg hat; rw [← Ny331.out] at ho; have n0_ := Aside0.mk (hb); have n1_ := Aside0.mk (ho); clear HB; clear HO330; have HB := n0_; have HO333 := n1_; clear n0_ n1_; clear ho hb hg hat) | ((with_reducible refine gate_callee (f := 70) rfl ?_); refine goesL_ (some 12) rfl rfl Try.func70 (by kernel_rfl) rfl #[.slice A0 l0.length c0, .int .u8 92] rfl (by (try simp only [List.map_toArray, List.map_cons, List.map_nil]); (rfl)) ?_; (with_reducible refine (notaryref04_Block.calls k _ _ l0 92 t334 _ ?side1 ?side2 A5.out).mono ?_); (case side1 => exact Kd.C_below HR0.out HB.out); (case side2 => exact HC0.out); rintro e w11 ⟨v335, rfl, ho0, hb⟩; refine ⟨_, rfl, ?_⟩; have n0_ := Aside0.mk (Kd.R_elder' (by exact HO333.out) (Kd.R_base ho0) hb); have n1_ := Aside0.mk (Kd.R_lower (Kd.R_new' ho0 (Kd.R_lt (by exact HO333.out))) (below_size HB.out)); have n2_ := Aside0.mk (below_step HB.out hb); clear HO333; clear HB; have HO333 := n0_; have HO336 := n1_; have HB := n2_; clear n0_ n1_ n2_; (try clear hb); (try clear ho0); obtain ⟨Ao12, co12, eo12⟩ := Kd.R_slice HO333.out; subst eo12) | ((with_reducible refine gate_callee (f := 71) rfl ?_); refine goesL_ (some 14) rfl rfl Try.func71 (by kernel_rfl) rfl #[.slice Ao12 y331.length co12] rfl (by (try simp only [List.map_toArray, List.map_cons, List.map_nil]); (rfl)) ?_; (with_reducible refine (notaryref03_Sum.calls k _ _ y331 t337 _ ?side1 ?side2 A6.out).mono ?_); (case side1 => repeat ((exact (Kd.R_reads' HO333.out).2.2))); (case side2 => exact (Kd.R_reads' HO333.out).2.1); rintro e w13 ⟨v338, rfl, ho0, hb⟩; refine ⟨_, rfl, ?_⟩; have n0_ := Aside0.mk (Kd.R_elder' (by exact HO333.out) (Kd.R_base ho0) hb); have n1_ := Aside0.mk (Kd.R_elder' (by exact HO336.out) (Kd.R_base ho0) hb); have n2_ := Aside0.mk (Kd.R_lower (Kd.R_new' (Kd.R_new' ho0 (Kd.R_lt (by exact HO333.out))) (Kd.R_lt (by exact HO336.out))) (below_size HB.out)); have n3_ := Aside0.mk (below_step HB.out hb); clear HO333; clear HO336; clear HB; have HO333 := n0_; have HO336 := n1_; have HO339 := n2_; have HB := n3_; clear n0_ n1_ n2_ n3_; (try clear hb); (try clear ho0); obtain ⟨Ao15, co15, eo15⟩ := Kd.R_slice HO339.out; subst eo15) | ((with_reducible refine gate_builtin (b := .append) (xs := #[.tmp 12, .tmp 14]) rfl ?_); at_builtin; refine Kd.R_append_rows (Kd.int .u8) (w0 := w) w.heap.size rfl (.tmp 12) (.tmp 14) 22 5 (.int .u8 0) 1 rfl Try.underlying22 info5 rfl (by decide) (by omega) v335 t334 t337 _ _ _ (fun k_ => some k_ ≠ (.slice Ao12 y331.length co12 : Value).ownBlock ∧ some k_ ≠ (.slice Ao15 t337.length co15 : Value).ownBlock) (fun _ => False) rfl rfl ?aO ?aR (fun _ _ h => h) (fun _ h => h.elim) ?aF ?aB ?aS ?aL ?_; (case aR => repeat ((exact (Kd.R_reads' HO339.out).2.2))); (case aB => exact HB.out); (case aF => exact (fun k_ hk => ⟨Kd.fresh' (Kd.R_lt (by exact HO333.out)) k_ hk, Kd.fresh' (Kd.R_lt (by exact HO339.out)) k_ hk⟩)); (case aO => exact (by exact Kd.R_mono HO336.out (fun _ hk => ⟨hk.1.2, hk.2⟩))); (case aS => exact (below_size HB.out)); (case aL => have := LMc7.out; omega); intro v341 w14 ho hb hg hat; rw [← Ny340.out] at ho; have n0_ := Aside0.mk (Kd.R_after (ok := (fun k_ => some k_ ≠ (.slice Ao15 t337.length co15 : Value).ownBlock)) (by exact Kd.R_mono HO333.out (fun _ hk => ⟨hk.2, hk.1.2⟩)) hg hat); have n1_ := Aside0.mk (Kd.R_after (ok := (fun k_ => some k_ ≠ (.slice Ao12 y331.length co12 : Value).ownBlock)) (by exact Kd.R_mono HO339.out (fun _ hk => ⟨hk.1.2, hk.2⟩)) hg hat); have n2_ := Aside0.mk (hb); have n3_ := Aside0.mk (ho); clear HO333; clear HO339; clear HB; clear HO336; have HO333 := n0_; have HO339 := n1_; have HB := n2_; have HO342 := n3_; clear n0_ n1_ n2_ n3_; clear ho hb hg hat; obtain ⟨Ao16, co16, eo16⟩ := Kd.R_slice HO342.out; subst eo16) | ((with_reducible refine gate_callee (f := 71) rfl ?_); refine goesL_ (some 17) rfl rfl Try.func71 (by kernel_rfl) rfl #[.slice Ao16 y340.length co16] rfl (by (try simp only [List.map_toArray, List.map_cons, List.map_nil]); (rfl)) ?_; (with_reducible refine (notaryref03_Sum.calls k _ _ y340 t343 _ ?side1 ?side2 A8.out).mono ?_); (case side1 => repeat ((exact (Kd.R_reads' HO342.out).2.2))); (case side2 => exact (Kd.R_reads' HO342.out).2.1); rintro e w17 ⟨v344, rfl, ho0, hb⟩; refine ⟨_, rfl, ?_⟩; have n0_ := Aside0.mk (Kd.R_elder' (by exact HO333.out) (Kd.R_base ho0) hb); have n1_ := Aside0.mk (Kd.R_elder' (by exact HO339.out) (Kd.R_base ho0) hb); have n2_ := Aside0.mk (Kd.R_elder' (by exact HO342.out) (Kd.R_base ho0) hb); have n3_ := Aside0.mk (Kd.R_lower (Kd.R_new' (Kd.R_new' (Kd.R_new' ho0 (Kd.R_lt (by exact HO333.out))) (Kd.R_lt (by exact HO339.out))) (Kd.R_lt (by exact HO342.out))) (below_size HB.out)); have n4_ := Aside0.mk (below_step HB.out hb); clear HO333; clear HO339; clear HO342; clear HB; have HO333 := n0_; have HO339 := n1_; have HO342 := n2_; have HO345 := n3_; have HB := n4_; clear n0_ n1_ n2_ n3_ n4_; (try clear hb); (try clear ho0)))
  go_ret
  exact ⟨_, by (rfl), by exact Kd.R_mono HO345.out (fun _ hk => trivial), HB.out⟩/-! ### notaryref47_Next: function 44 -/
def notaryref47_Next.f (k : Nat) (l0 : List Int) (l1 : List Int) (a2 : Int) (a3_0 : Int) (l3_1 : List Int) : Option (List Int) := (notaryref47_Message.f k l1 (IntKind.u64.wrap (a2)) a3_0 l3_1).bind fun bt347 => ((notaryref04_Tag.f k l0 bt347.1).bind fun t351 => (some t351))
set_option maxHeartbeats 8000000 in
set_option maxRecDepth 100000 in
theorem notaryref47_Next.calls (k : Nat) (A0 : Option Addr) (c0 : Nat) (l0 : List Int) (A1 : Option Addr) (c1 : Nat) (l1 : List Int) (a2 : Int) (a3_0 : Int) (A3_1 : Option Addr) (c3_1 : Nat) (l3_1 : List Int) (r : List Int) (w : World) (hr0 : Kd.C (Kd.int .u8) w A0 l0.length l0) (hc0 : l0.length ≤ c0) (hr1 : Kd.C (Kd.int .u8) w A1 l1.length l1) (hc1 : l1.length ≤ c1) (hr3_1 : Kd.C (Kd.int .u8) w A3_1 l3_1.length l3_1) (hc3_1 : l3_1.length ≤ c3_1) (h : notaryref47_Next.f k l0 l1 a2 a3_0 l3_1 = some r) :
    Calls Try.prog 44 #[.slice A0 l0.length c0, .slice A1 l1.length c1, .int .i64 a2, .agg #[.int .i64 a3_0, .slice A3_1 l3_1.length c3_1]] w fun e w' => ∃ v0_ : Value, e = .returned (v0_) ∧ Kd.R (Kd.int .u8) 5 w' w.heap.size (fun _ => True) v0_ r ∧ Below w.heap.size w w' := by
  have hu35 := Try.underlying35
  have HR0 := Aside0.mk hr0
  have HC0 := Aside0.mk hc0
  clear hr0 hc0
  have HR1 := Aside0.mk hr1
  have HC1 := Aside0.mk hc1
  clear hr1 hc1
  have HR3_1 := Aside0.mk hr3_1
  have HC3_1 := Aside0.mk hc3_1
  clear hr3_1 hc3_1
  have HB := Aside0.mk (Below.refl w.heap.size w)
  have H : ((notaryref47_Message.f k l1 (IntKind.u64.wrap (a2)) a3_0 l3_1).bind fun bt347 => ((notaryref04_Tag.f k l0 bt347.1).bind fun t351 => (some t351))) = some r := h
  clear h
  replace H := Option.bind_eq_some_iff.mp H
  obtain ⟨⟨t347, t350⟩, A50, H⟩ := H
  replace H : ((notaryref04_Tag.f k l0 t347).bind fun t351 => (some t351)) = some r := H
  have A5 := Aside0.mk A50
  clear A50
  replace H := Option.bind_eq_some_iff.mp H
  obtain ⟨t351, A60, H⟩ := H
  replace H : (some t351) = some r := H
  have A6 := Aside0.mk A60
  clear A60
  obtain rfl := Option.some.inj H
  go_enter Try.func44, Try.ntmps44
  go_wp2_with (first | ((with_reducible refine gate_dst (N := 7) rfl ?_); refine box_event ?hg (N := 7) ?hd (cs := #[.int .i64 a3_0, .slice A3_1 l3_1.length c3_1]) (t := 35) ?hr ?_; (case hd => rfl); (case hg => rfl); (case hr => (go_simp; done)); intro gb346 hg w7 hbox hb; have n0_ := Aside0.mk (below_step HB.out hb); have n1_ := Aside0.mk (hbox); have n2_ := Aside0.mk ((by rw [hg]; exact (below_size HB.out) : w.heap.size ≤ gb346)); have n3_ := Aside0.mk ((by rw [hg]; exact (below_size HB.out) : w.heap.size ≤ gb346)); clear HB; have HB := n0_; have BK346 := n1_; have GW346 := n2_; have GE346 := n3_; clear n0_ n1_ n2_ n3_; clear hb hbox hg; have hcz8_0 : w7.cell? ⟨gb346, 0, none⟩ = some (.int .i64 a3_0) := (blk_cell BK346.out 0).trans rfl; have hcz8_1 : w7.cell? ⟨gb346, 1, none⟩ = some (.slice A3_1 l3_1.length c3_1) := (blk_cell BK346.out 1).trans rfl; have hfz8_0 := blk_frozen BK346.out 0; have hfz8_1 := blk_frozen BK346.out 1) | ((with_reducible refine gate_callee (f := 59) rfl ?_); refine goesL_ (some 16) rfl rfl Try.func59 (by kernel_rfl) rfl #[.slice A1 l1.length c1, .int .u64 (IntKind.u64.wrap (a2)), .agg #[.int .i64 a3_0, .slice A3_1 l3_1.length c3_1]] rfl (by (try simp only [List.map_toArray, List.map_cons, List.map_nil]); (rfl)) ?_; (with_reducible refine (notaryref47_Message.calls k _ _ l1 (IntKind.u64.wrap (a2)) a3_0 _ _ l3_1 t347 t350 _ ?side1 ?side2 ?side3 ?side4 A5.out).mono ?_); (case side1 => exact Kd.C_below HR1.out HB.out); (case side2 => exact HC1.out); (case side3 => exact Kd.C_below HR3_1.out HB.out); (case side4 => exact HC3_1.out); rintro e w9 ⟨v348, rfl, ho0, hb⟩; refine ⟨_, rfl, ?_⟩; have n0_ := Aside0.mk (Kd.R_lower ho0 (below_size HB.out)); have n1_ := Aside0.mk (blk_below (g := gb346) (o := .cells #[.int .i64 a3_0, .slice A3_1 l3_1.length c3_1] 35 (0, 0)) (by exact BK346.out) hb); have n2_ := Aside0.mk (below_step HB.out hb); clear BK346; clear HB; have HO349 := n0_; have BK346 := n1_; have HB := n2_; clear n0_ n1_ n2_; (try clear hb); (try clear ho0); obtain ⟨Ao10, co10, eo10⟩ := Kd.R_slice HO349.out; subst eo10) | ((with_reducible refine gate_callee (f := 60) rfl ?_); refine goesL_ (some 21) rfl rfl Try.func60 (by kernel_rfl) rfl #[.slice A0 l0.length c0, .slice Ao10 t347.length co10] rfl (by (try simp only [List.map_toArray, List.map_cons, List.map_nil]); (rfl)) ?_; (with_reducible refine (notaryref04_Tag.calls k _ _ l0 _ _ t347 t351 _ ?side1 ?side2 ?side3 ?side4 A6.out).mono ?_); (case side1 => exact Kd.C_below HR0.out HB.out); (case side2 => exact HC0.out); (case side3 => repeat ((exact (Kd.R_reads' HO349.out).2.2))); (case side4 => exact (Kd.R_reads' HO349.out).2.1); rintro e w11 ⟨v352, rfl, ho0, hb⟩; refine ⟨_, rfl, ?_⟩; have n0_ := Aside0.mk (Kd.R_elder' (by exact HO349.out) (Kd.R_base ho0) hb); have n1_ := Aside0.mk (Kd.R_lower (Kd.R_new' ho0 (Kd.R_lt (by exact HO349.out))) (below_size HB.out)); have n2_ := Aside0.mk (blk_below (g := gb346) (o := .cells #[.int .i64 a3_0, .slice A3_1 l3_1.length c3_1] 35 (0, 0)) (by exact BK346.out) hb); have n3_ := Aside0.mk (below_step HB.out hb); clear HO349; clear BK346; clear HB; have HO349 := n0_; have HO353 := n1_; have BK346 := n2_; have HB := n3_; clear n0_ n1_ n2_ n3_; (try clear hb); (try clear ho0)))
  go_ret
  exact ⟨_, by (rfl), by exact Kd.R_mono HO353.out (fun _ hk => trivial), HB.out⟩

end Go.Proofs.Ytogjnipojakfjaa.PJd
