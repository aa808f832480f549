/- The law of sizes, depths and paths, for every input of its row. -/
import Derived.StillTailTactics
import Derived.IntWalk
import Derived.WalkSpells
import Derived.Outline
import Derived.Deep.RegionHeld3
import Derived.Test.YtppeaofdohghgaaLTermM
import Derived.Test.YtppeaofdohghgaaWTermOp
import Derived.Test.YtppeaofdohghgaaPTmx1
import Derived.Test.YtppeaofdohghgaaPTmx2
import Derived.Test.YtppeaofdohghgaaPTmx6
import Derived.Test.YtppeaofdohghgaaPTmx9
import Derived.Test.YtppeaofdohghgaaPTmx10
namespace Go.Proofs.Ytppeaofdohghgaa.Walk
set_option linter.unusedVariables false
set_option linter.unusedSimpArgs false
open Go.RowKit Go.Proofs.Ytppeaofdohghgaa.PTm Go.Proofs.Ytppeaofdohghgaa.SOpen Go.Proofs.YtppeaofdohghgaaW.PrintWords Go.Proofs.YtppeaofdohghgaaW.PrintLast Go.Proofs.YtppeaofdohghgaaW.PrintMore
open LTerm (T)
theorem awake_ret (w : World) : Calls Try.prog 9 #[] w fun e w' => e = .returned (.bool true) ∧ Below w.heap.size w w' := by
  obtain ⟨k, hk⟩ := Ev.rounds LTerm.awake_ev
  exact notarylaw06_awake.calls k true w hk
set_option maxHeartbeats 4000000 in
set_option maxRecDepth 100000 in
theorem measures (w : World) (t : T) (A0 : Option Addr) (c0 : Nat) (hc0 : t.f3.length ≤ c0) (hC0 : Kd.C k24 w A0 t.f3.length t.f3) (hf0 : LTerm.Fine t) :
    Calls Try.prog 3 #[.agg #[.int .i64 t.f0, .int .i64 t.f1, .string t.f2, .slice A0 t.f3.length c0, .int .i64 t.f4, .int .i64 t.f5]] w fun e w' => e = .returned (.bool true) ∧ Below w.heap.size w w' := by
  obtain ⟨la, hla, hsa⟩ := LTerm.large_ev t hf0
  obtain ⟨k1, hk1⟩ := Ev.rounds hla
  have HC0 := Aside0.mk hC0
  have HL0 := Aside0.mk hc0
  have HK1 := Aside0.mk hk1
  clear hC0 hc0 hla hk1
  go_enter Try.func3, Try.ntmps3
  go_upto_region 1 with (fail)
  obtain ⟨W1, hW1⟩ : ∃ W1 : World, W1 = w.alloc (.cells #[.int .i64 t.f0, .int .i64 t.f1, .string t.f2, .slice A0 t.f3.length c0, .int .i64 t.f4, .int .i64 t.f5] 24) := ⟨_, rfl⟩
  have hb : Below w.heap.size w W1 := by rw [hW1]; exact below_alloc (Below.refl _ _) _
  have h0 : W1.heap[w.heap.size]? = some (.cells #[.int .i64 t.f0, .int .i64 t.f1, .string t.f2, .slice A0 t.f3.length c0, .int .i64 t.f4, .int .i64 t.f5] 24 (0, 0)) := by rw [hW1]; exact blk_new _ _
  rw [← hW1]
  have HBW := Aside0.mk hb
  have D0 := Aside0.mk (Kd.C_below HC0.out hb)
  have G1 := Aside0.mk h0
  clear hW1 hb h0 HC0
  cases la with
  | true =>
    clear hsa
    go_wp2_with (first | (refine wpList_load_row rfl 24 (.tmp 1) rfl w.heap.size rfl 24 _ (0, 0) _ (blk_below G1.out (by with_reducible repeat (first | exact HX16.out | exact HX15.out | exact HX14.out | exact HX13.out | exact HX12.out | exact HX11.out | exact HX10.out | exact HX9.out | exact HX8.out | exact HX7.out | exact HX6.out | exact HX5.out | exact HX4.out | exact HX3.out | exact HX2.out | exact HX1.out | exact Below.refl _ _ | apply below_alloc | apply below_drew))) Try.underlying24 rfl (by kernel_rfl) ?_) | (go_at_call 8; (with_reducible refine (notaryref06_Large.calls k1 t.f0 t.f1 t.f2 A0 c0 t.f3 t.f4 t.f5 true _ (Kd.C_below D0.out (by with_reducible repeat (first | exact HX16.out | exact HX15.out | exact HX14.out | exact HX13.out | exact HX12.out | exact HX11.out | exact HX10.out | exact HX9.out | exact HX8.out | exact HX7.out | exact HX6.out | exact HX5.out | exact HX4.out | exact HX3.out | exact HX2.out | exact HX1.out | exact Below.refl _ _ | apply below_alloc | apply below_drew))) HL0.out HK1.out).mono ?_); rintro e w1 ⟨rfl, hb1⟩; (have HX1 : Aside0 (Below W1.heap.size W1 w1) := ⟨below_step (by with_reducible repeat (first | exact HX16.out | exact HX15.out | exact HX14.out | exact HX13.out | exact HX12.out | exact HX11.out | exact HX10.out | exact HX9.out | exact HX8.out | exact HX7.out | exact HX6.out | exact HX5.out | exact HX4.out | exact HX3.out | exact HX2.out | exact HX1.out | exact Below.refl _ _ | apply below_alloc | apply below_drew)) hb1⟩); clear hb1) | (go_at_call 9; (with_reducible refine (awake_ret _).mono ?_); rintro e w2 ⟨rfl, hb2⟩; (have HX2 : Aside0 (Below W1.heap.size W1 w2) := ⟨below_step (by with_reducible repeat (first | exact HX16.out | exact HX15.out | exact HX14.out | exact HX13.out | exact HX12.out | exact HX11.out | exact HX10.out | exact HX9.out | exact HX8.out | exact HX7.out | exact HX6.out | exact HX5.out | exact HX4.out | exact HX3.out | exact HX2.out | exact HX1.out | exact Below.refl _ _ | apply below_alloc | apply below_drew)) hb2⟩); clear hb2))
    go_ret
    exact ⟨rfl, below_step HBW.out HX2.out⟩
  | false =>
  obtain ⟨hst, hzt⟩ := hsa rfl
  obtain ⟨L, hL1, hL2, hL3, hL4⟩ := LTerm.paths_both t 70 hst (by omega) (by omega)
  have hl3 := hL3 [] [] (by simp) (by simp; omega)
  simp only [List.nil_append, List.map_id'] at hl3
  obtain ⟨k3, hk3⟩ := Ev.rounds hl3
  obtain ⟨k4, hk4⟩ := Ev.rounds hL4
  obtain ⟨k5, hk5⟩ := Ev.rounds (LTerm.size_ev t 70 hst (by omega) (by omega))
  obtain ⟨k6, hk6⟩ := Ev.rounds (LTerm.refsize_ev t hf0 (by omega))
  obtain ⟨k7, hk7⟩ := Ev.rounds (LTerm.depth_ev t 70 hst (by omega) (by omega))
  obtain ⟨k8, hk8⟩ := Ev.rounds (LTerm.refdepth_ev t 70 hst (by omega))
  obtain ⟨r, hr1, hr2, hr3⟩ := LTerm.bare_both t 70 hst
  obtain ⟨k9, hk9⟩ := Ev.rounds hr1
  obtain ⟨k10, hk10⟩ := Ev.rounds hr2
  obtain ⟨k11, hk11⟩ := Ev.rounds (LTerm.placed_self r hr3.fine)
  simp only [LTerm.tup6] at hk10
  obtain ⟨s, hs⟩ : ∃ s : Int, s = (LTerm.sz t : Int) := ⟨_, rfl⟩
  obtain ⟨d, hd⟩ : ∃ d : Int, d = (LTerm.dep t : Int) := ⟨_, rfl⟩
  rw [← hs] at hk5 hk6
  rw [← hd] at hk7 hk8
  have hLL : L.length ≤ 400 := by omega
  have HLL := Aside0.mk hLL
  have HL2 := Aside0.mk hL2
  have HK3 := Aside0.mk (show term_Paths.f k3 t = some L from hk3)
  have HK4 := Aside0.mk hk4
  have HK5 := Aside0.mk hk5
  have HK6 := Aside0.mk hk6
  have HK7 := Aside0.mk hk7
  have HK8 := Aside0.mk hk8
  have HK9 := Aside0.mk hk9
  have HK10 := Aside0.mk hk10
  have HK11 := Aside0.mk hk11
  clear hst hzt hsa hL1 hL2 hL3 hL4 hl3 hk3 hk4 hk5 hk6 hk7 hk8 hr1 hr2 hr3 hk9 hk10 hk11 hs hd hLL hf0
  go_upto_region 5 with (first | (refine wpList_load_row rfl 24 (.tmp 1) rfl w.heap.size rfl 24 _ (0, 0) _ (blk_below G1.out (by with_reducible repeat (first | exact HX16.out | exact HX15.out | exact HX14.out | exact HX13.out | exact HX12.out | exact HX11.out | exact HX10.out | exact HX9.out | exact HX8.out | exact HX7.out | exact HX6.out | exact HX5.out | exact HX4.out | exact HX3.out | exact HX2.out | exact HX1.out | exact Below.refl _ _ | apply below_alloc | apply below_drew))) Try.underlying24 rfl (by kernel_rfl) ?_) | (go_at_call 8; (with_reducible refine (notaryref06_Large.calls k1 t.f0 t.f1 t.f2 A0 c0 t.f3 t.f4 t.f5 false _ (Kd.C_below D0.out (by with_reducible repeat (first | exact HX16.out | exact HX15.out | exact HX14.out | exact HX13.out | exact HX12.out | exact HX11.out | exact HX10.out | exact HX9.out | exact HX8.out | exact HX7.out | exact HX6.out | exact HX5.out | exact HX4.out | exact HX3.out | exact HX2.out | exact HX1.out | exact Below.refl _ _ | apply below_alloc | apply below_drew))) HL0.out HK1.out).mono ?_); rintro e w1 ⟨rfl, hb1⟩; (have HX1 : Aside0 (Below W1.heap.size W1 w1) := ⟨below_step (by with_reducible repeat (first | exact HX16.out | exact HX15.out | exact HX14.out | exact HX13.out | exact HX12.out | exact HX11.out | exact HX10.out | exact HX9.out | exact HX8.out | exact HX7.out | exact HX6.out | exact HX5.out | exact HX4.out | exact HX3.out | exact HX2.out | exact HX1.out | exact Below.refl _ _ | apply below_alloc | apply below_drew)) hb1⟩); clear hb1) | (go_at_call 10; (with_reducible refine (term_Paths.calls k3 t A0 c0 L _ (Kd.C_below D0.out (by with_reducible repeat (first | exact HX16.out | exact HX15.out | exact HX14.out | exact HX13.out | exact HX12.out | exact HX11.out | exact HX10.out | exact HX9.out | exact HX8.out | exact HX7.out | exact HX6.out | exact HX5.out | exact HX4.out | exact HX3.out | exact HX2.out | exact HX1.out | exact Below.refl _ _ | apply below_alloc | apply below_drew))) HL0.out HK3.out).mono ?_); rintro e w3 ⟨AP, cP, rfl, hcP, hCP, hb3⟩; (have HX3 : Aside0 (Below W1.heap.size W1 w3) := ⟨below_step (by with_reducible repeat (first | exact HX16.out | exact HX15.out | exact HX14.out | exact HX13.out | exact HX12.out | exact HX11.out | exact HX10.out | exact HX9.out | exact HX8.out | exact HX7.out | exact HX6.out | exact HX5.out | exact HX4.out | exact HX3.out | exact HX2.out | exact HX1.out | exact Below.refl _ _ | apply below_alloc | apply below_drew)) hb3⟩); clear hb3; (have HLP := Aside0.mk hcP); (have HCP := Aside0.mk hCP); clear hcP hCP) | (go_at_call 11; (with_reducible refine (notaryref06_Paths.calls k4 t.f0 t.f1 t.f2 A0 c0 t.f3 t.f4 t.f5 L _ (Kd.C_below D0.out (by with_reducible repeat (first | exact HX16.out | exact HX15.out | exact HX14.out | exact HX13.out | exact HX12.out | exact HX11.out | exact HX10.out | exact HX9.out | exact HX8.out | exact HX7.out | exact HX6.out | exact HX5.out | exact HX4.out | exact HX3.out | exact HX2.out | exact HX1.out | exact Below.refl _ _ | apply below_alloc | apply below_drew))) HL0.out HK4.out).mono ?_); rintro e w4 ⟨v4, rfl, hN4, hb4⟩; (have HX4 : Aside0 (Below W1.heap.size W1 w4) := ⟨below_step (by with_reducible repeat (first | exact HX16.out | exact HX15.out | exact HX14.out | exact HX13.out | exact HX12.out | exact HX11.out | exact HX10.out | exact HX9.out | exact HX8.out | exact HX7.out | exact HX6.out | exact HX5.out | exact HX4.out | exact HX3.out | exact HX2.out | exact HX1.out | exact Below.refl _ _ | apply below_alloc | apply below_drew)) hb4⟩); (have HX4S := Aside0.mk hb4); clear hb4; (obtain ⟨AQ, cQ, rfl, hcQ, hCQ⟩ := Kd.N_reads hN4); (have HLQ := Aside0.mk hcQ); (have HCQ := Aside0.mk hCQ); clear hN4 hcQ hCQ))
  go_cut [39] (fun v39 wd => v39 = .bool false ∧ Aside0 (Below W1.heap.size W1 wd) ∧ Aside0 (Below w4.heap.size w4 wd))
  case first =>
    have e1 : (s != s) = false := by simp
    have e2 : (d != d) = false := by simp
    have e3 : ((L.length : Int) != (L.length : Int)) = false := by simp
    have e4 : (L.length != L.length) = false := by simp
    go_region_held3 (fun w' => w'.cell? ⟨w.heap.size, 0, none⟩ = some (.int .i64 t.f0) ∧ w'.cell? ⟨w.heap.size, 1, none⟩ = some (.int .i64 t.f1) ∧ w'.cell? ⟨w.heap.size, 2, none⟩ = some (.string t.f2) ∧ w'.cell? ⟨w.heap.size, 3, none⟩ = some (.slice A0 t.f3.length c0) ∧ w'.cell? ⟨w.heap.size, 4, none⟩ = some (.int .i64 t.f4) ∧ w'.cell? ⟨w.heap.size, 5, none⟩ = some (.int .i64 t.f5)) (first | (with_reducible refine ⟨pw_cell_below ?b ((blk_cell G1.out 0).trans rfl), pw_cell_below ?b ((blk_cell G1.out 1).trans rfl), pw_cell_below ?b ((blk_cell G1.out 2).trans rfl), pw_cell_below ?b ((blk_cell G1.out 3).trans rfl), pw_cell_below ?b ((blk_cell G1.out 4).trans rfl), pw_cell_below ?b ((blk_cell G1.out 5).trans rfl)⟩; case b => exact (by with_reducible repeat (first | exact HX16.out | exact HX15.out | exact HX14.out | exact HX13.out | exact HX12.out | exact HX11.out | exact HX10.out | exact HX9.out | exact HX8.out | exact HX7.out | exact HX6.out | exact HX5.out | exact HX4.out | exact HX3.out | exact HX2.out | exact HX1.out | exact Below.refl _ _ | apply below_alloc | apply below_drew))) | go_keep) (first | (go_at_call 12; (with_reducible refine (term_Size.calls k5 t.f0 t.f1 t.f2 A0 c0 t.f3 t.f4 t.f5 s _ (Kd.C_below D0.out (by with_reducible repeat (first | exact HX16.out | exact HX15.out | exact HX14.out | exact HX13.out | exact HX12.out | exact HX11.out | exact HX10.out | exact HX9.out | exact HX8.out | exact HX7.out | exact HX6.out | exact HX5.out | exact HX4.out | exact HX3.out | exact HX2.out | exact HX1.out | exact Below.refl _ _ | apply below_alloc | apply below_drew))) HL0.out HK5.out).mono ?_); rintro e w5 ⟨rfl, hb5⟩; (have HX5 : Aside0 (Below W1.heap.size W1 w5) := ⟨below_step (by with_reducible repeat (first | exact HX16.out | exact HX15.out | exact HX14.out | exact HX13.out | exact HX12.out | exact HX11.out | exact HX10.out | exact HX9.out | exact HX8.out | exact HX7.out | exact HX6.out | exact HX5.out | exact HX4.out | exact HX3.out | exact HX2.out | exact HX1.out | exact Below.refl _ _ | apply below_alloc | apply below_drew)) hb5⟩); (have Y5 : Aside0 (Below w4.heap.size w4 w5) := ⟨below_step (by with_reducible repeat (first | exact Y16.out | exact Y15.out | exact Y14.out | exact Y13.out | exact Y12.out | exact Y11.out | exact Y10.out | exact Y9.out | exact Y8.out | exact Y7.out | exact Y6.out | exact Y5.out | exact Below.refl _ _ | apply below_alloc | apply below_drew)) hb5⟩); clear hb5) | (go_at_call 13; (with_reducible refine (notaryref06_Size.calls k6 t.f0 t.f1 t.f2 A0 c0 t.f3 t.f4 t.f5 s _ (Kd.C_below D0.out (by with_reducible repeat (first | exact HX16.out | exact HX15.out | exact HX14.out | exact HX13.out | exact HX12.out | exact HX11.out | exact HX10.out | exact HX9.out | exact HX8.out | exact HX7.out | exact HX6.out | exact HX5.out | exact HX4.out | exact HX3.out | exact HX2.out | exact HX1.out | exact Below.refl _ _ | apply below_alloc | apply below_drew))) HL0.out HK6.out).mono ?_); rintro e w6 ⟨rfl, hb6⟩; (have HX6 : Aside0 (Below W1.heap.size W1 w6) := ⟨below_step (by with_reducible repeat (first | exact HX16.out | exact HX15.out | exact HX14.out | exact HX13.out | exact HX12.out | exact HX11.out | exact HX10.out | exact HX9.out | exact HX8.out | exact HX7.out | exact HX6.out | exact HX5.out | exact HX4.out | exact HX3.out | exact HX2.out | exact HX1.out | exact Below.refl _ _ | apply below_alloc | apply below_drew)) hb6⟩); (have Y6 : Aside0 (Below w4.heap.size w4 w6) := ⟨below_step (by with_reducible repeat (first | exact Y16.out | exact Y15.out | exact Y14.out | exact Y13.out | exact Y12.out | exact Y11.out | exact Y10.out | exact Y9.out | exact Y8.out | exact Y7.out | exact Y6.out | exact Y5.out | exact Below.refl _ _ | apply below_alloc | apply below_drew)) hb6⟩); clear hb6) | (go_at_call 14; (with_reducible refine (term_Depth.calls k7 t.f0 t.f1 t.f2 A0 c0 t.f3 t.f4 t.f5 d _ (Kd.C_below D0.out (by with_reducible repeat (first | exact HX16.out | exact HX15.out | exact HX14.out | exact HX13.out | exact HX12.out | exact HX11.out | exact HX10.out | exact HX9.out | exact HX8.out | exact HX7.out | exact HX6.out | exact HX5.out | exact HX4.out | exact HX3.out | exact HX2.out | exact HX1.out | exact Below.refl _ _ | apply below_alloc | apply below_drew))) HL0.out HK7.out).mono ?_); rintro e w7 ⟨rfl, hb7⟩; (have HX7 : Aside0 (Below W1.heap.size W1 w7) := ⟨below_step (by with_reducible repeat (first | exact HX16.out | exact HX15.out | exact HX14.out | exact HX13.out | exact HX12.out | exact HX11.out | exact HX10.out | exact HX9.out | exact HX8.out | exact HX7.out | exact HX6.out | exact HX5.out | exact HX4.out | exact HX3.out | exact HX2.out | exact HX1.out | exact Below.refl _ _ | apply below_alloc | apply below_drew)) hb7⟩); (have Y7 : Aside0 (Below w4.heap.size w4 w7) := ⟨below_step (by with_reducible repeat (first | exact Y16.out | exact Y15.out | exact Y14.out | exact Y13.out | exact Y12.out | exact Y11.out | exact Y10.out | exact Y9.out | exact Y8.out | exact Y7.out | exact Y6.out | exact Y5.out | exact Below.refl _ _ | apply below_alloc | apply below_drew)) hb7⟩); clear hb7) | (go_at_call 15; (with_reducible refine (notaryref06_Depth.calls k8 t.f0 t.f1 t.f2 A0 c0 t.f3 t.f4 t.f5 d _ (Kd.C_below D0.out (by with_reducible repeat (first | exact HX16.out | exact HX15.out | exact HX14.out | exact HX13.out | exact HX12.out | exact HX11.out | exact HX10.out | exact HX9.out | exact HX8.out | exact HX7.out | exact HX6.out | exact HX5.out | exact HX4.out | exact HX3.out | exact HX2.out | exact HX1.out | exact Below.refl _ _ | apply below_alloc | apply below_drew))) HL0.out HK8.out).mono ?_); rintro e w8 ⟨rfl, hb8⟩; (have HX8 : Aside0 (Below W1.heap.size W1 w8) := ⟨below_step (by with_reducible repeat (first | exact HX16.out | exact HX15.out | exact HX14.out | exact HX13.out | exact HX12.out | exact HX11.out | exact HX10.out | exact HX9.out | exact HX8.out | exact HX7.out | exact HX6.out | exact HX5.out | exact HX4.out | exact HX3.out | exact HX2.out | exact HX1.out | exact Below.refl _ _ | apply below_alloc | apply below_drew)) hb8⟩); (have Y8 : Aside0 (Below w4.heap.size w4 w8) := ⟨below_step (by with_reducible repeat (first | exact Y16.out | exact Y15.out | exact Y14.out | exact Y13.out | exact Y12.out | exact Y11.out | exact Y10.out | exact Y9.out | exact Y8.out | exact Y7.out | exact Y6.out | exact Y5.out | exact Below.refl _ _ | apply below_alloc | apply below_drew)) hb8⟩); clear hb8) | (go_at_call 17; (with_reducible refine (term_Bare.calls k9 t A0 c0 r _ (Kd.C_below D0.out (by with_reducible repeat (first | exact HX16.out | exact HX15.out | exact HX14.out | exact HX13.out | exact HX12.out | exact HX11.out | exact HX10.out | exact HX9.out | exact HX8.out | exact HX7.out | exact HX6.out | exact HX5.out | exact HX4.out | exact HX3.out | exact HX2.out | exact HX1.out | exact Below.refl _ _ | apply below_alloc | apply below_drew))) HL0.out HK9.out).mono ?_); rintro e w9 ⟨A9, c9, rfl, hc9, hF9, hb9⟩; (have HX9 : Aside0 (Below W1.heap.size W1 w9) := ⟨below_step (by with_reducible repeat (first | exact HX16.out | exact HX15.out | exact HX14.out | exact HX13.out | exact HX12.out | exact HX11.out | exact HX10.out | exact HX9.out | exact HX8.out | exact HX7.out | exact HX6.out | exact HX5.out | exact HX4.out | exact HX3.out | exact HX2.out | exact HX1.out | exact Below.refl _ _ | apply below_alloc | apply below_drew)) hb9⟩); (have Y9 : Aside0 (Below w4.heap.size w4 w9) := ⟨below_step (by with_reducible repeat (first | exact Y16.out | exact Y15.out | exact Y14.out | exact Y13.out | exact Y12.out | exact Y11.out | exact Y10.out | exact Y9.out | exact Y8.out | exact Y7.out | exact Y6.out | exact Y5.out | exact Below.refl _ _ | apply below_alloc | apply below_drew)) hb9⟩); clear hb9; (have HC9 := Aside0.mk hc9); (have HF9 := Aside0.mk (Kd.F_now hF9)); clear hc9 hF9) | (go_at_call 18; (with_reducible refine (notaryref06_Bare.calls k10 t.f0 t.f1 t.f2 A0 c0 t.f3 t.f4 t.f5 r.f0 r.f1 r.f2 r.f3 r.f4 r.f5 _ (Kd.C_below D0.out (by with_reducible repeat (first | exact HX16.out | exact HX15.out | exact HX14.out | exact HX13.out | exact HX12.out | exact HX11.out | exact HX10.out | exact HX9.out | exact HX8.out | exact HX7.out | exact HX6.out | exact HX5.out | exact HX4.out | exact HX3.out | exact HX2.out | exact HX1.out | exact Below.refl _ _ | apply below_alloc | apply below_drew))) HL0.out HK10.out).mono ?_); rintro e w10 ⟨v10, rfl, hR10, hb10⟩; (have HX10 : Aside0 (Below W1.heap.size W1 w10) := ⟨below_step (by with_reducible repeat (first | exact HX16.out | exact HX15.out | exact HX14.out | exact HX13.out | exact HX12.out | exact HX11.out | exact HX10.out | exact HX9.out | exact HX8.out | exact HX7.out | exact HX6.out | exact HX5.out | exact HX4.out | exact HX3.out | exact HX2.out | exact HX1.out | exact Below.refl _ _ | apply below_alloc | apply below_drew)) hb10⟩); (have HS10 := Aside0.mk hb10); (have Y10 : Aside0 (Below w4.heap.size w4 w10) := ⟨below_step (by with_reducible repeat (first | exact Y16.out | exact Y15.out | exact Y14.out | exact Y13.out | exact Y12.out | exact Y11.out | exact Y10.out | exact Y9.out | exact Y8.out | exact Y7.out | exact Y6.out | exact Y5.out | exact Below.refl _ _ | apply below_alloc | apply below_drew)) hb10⟩); clear hb10; (obtain ⟨A10, c10, rfl⟩ := Kd.R_slice hR10); (have HR10 := Aside0.mk (Kd.R_reads' hR10)); clear hR10) | (go_at_call 16; (with_reducible refine (notaryref06_Placed.calls k11 r.f0 r.f1 r.f2 A9 c9 r.f3 r.f4 r.f5 r.f0 r.f1 r.f2 A10 c10 r.f3 r.f4 r.f5 true _ (Kd.C_below HF9.out (by with_reducible repeat (first | exact Below.refl _ _ | exact below_step (by with_reducible repeat (first | exact Below.refl _ _ | apply below_alloc | apply below_drew)) HS10.out | apply below_alloc | apply below_drew))) HC9.out (Kd.C_below HR10.out.2.2 (by with_reducible repeat (first | exact Below.refl _ _ | apply below_alloc | apply below_drew))) HR10.out.2.1 HK11.out).mono ?_); rintro e w11 ⟨rfl, hb11⟩; (have HX11 : Aside0 (Below W1.heap.size W1 w11) := ⟨below_step (by with_reducible repeat (first | exact HX16.out | exact HX15.out | exact HX14.out | exact HX13.out | exact HX12.out | exact HX11.out | exact HX10.out | exact HX9.out | exact HX8.out | exact HX7.out | exact HX6.out | exact HX5.out | exact HX4.out | exact HX3.out | exact HX2.out | exact HX1.out | exact Below.refl _ _ | apply below_alloc | apply below_drew)) hb11⟩); (have Y11 : Aside0 (Below w4.heap.size w4 w11) := ⟨below_step (by with_reducible repeat (first | exact Y16.out | exact Y15.out | exact Y14.out | exact Y13.out | exact Y12.out | exact Y11.out | exact Y10.out | exact Y9.out | exact Y8.out | exact Y7.out | exact Y6.out | exact Y5.out | exact Below.refl _ _ | apply below_alloc | apply below_drew)) hb11⟩); clear hb11))
    rename_i hHeld
    clear hHeld
    go_wp2
    go_meet
    case rel => exact ⟨rfl, HX11, Y11⟩
  case rest =>
    obtain ⟨rfl, HX12, Y12⟩ := hcut
    have DP := Aside0.mk (Kd.C_below (Kd.C_below HCP.out HX4S.out) Y12.out)
    have DQ := Aside0.mk (Kd.C_below HCQ.out Y12.out)
    clear HX1 HX3 HX4 HX4S HCP HCQ
    go_wp2
    go_loopg [5] L.length (fun q v5 w' => ∃ j : Nat, v5 = .int .i64 (j : Int) ∧ j + q = L.length ∧ Aside0 (Below wc.heap.size wc w'))
    case atStart => exact ⟨0, rfl, by omega, ⟨Below.refl _ _⟩⟩
    case round =>
      obtain ⟨j, rfl, hjq, HJ⟩ := hrel
      cases gk with
      | zero =>
        obtain rfl : j = L.length := by omega
        have hd : decide ((L.length : Int) < (L.length : Int)) = false := by simp
        go_wp2_with (go_at_call 9; (with_reducible refine (awake_ret _).mono ?_); rintro e w2 ⟨rfl, hb2⟩; (have HX2 := Aside0.mk (below_step HJ.out hb2)); clear hb2)
        go_ret
        exact ⟨rfl, below_step HBW.out (below_step HX12.out HX2.out)⟩
      | succ q =>
        have hd : decide ((j : Int) < (L.length : Int)) = true := decide_eq_true (by omega)
        have p0 : 0 ≤ (j : Int) := by omega
        have p1 : (j : Int) < (L.length : Int) := by omega
        obtain ⟨ad, Aq, cq, e0, m0, hlq, hcq⟩ := at_L1 (Kd.C_below DP.out HJ.out) (j : Int) p0 p1
        obtain ⟨bd, Br, dr, e1, m1, hlr, hcr⟩ := at_L1 (Kd.C_below DQ.out HJ.out) (j : Int) p0 p1
        have hmem : rd_L1 L (j : Int) ∈ L := by
          unfold rd_L1
          rw [Int.toNat_natCast, List.getD_eq_getElem?_getD, List.getElem?_eq_getElem (show j < L.length by omega)]
          exact List.getElem_mem _
        have hql := HL2.out _ hmem
        generalize rd_L1 L (j : Int) = u at m0 hlq hcq m1 hlr hcr hql
        clear hmem
        obtain ⟨kw, hkw⟩ := Ev.rounds (LTerm.way_ev u u (by omega) rfl)
        rw [decide_eq_true rfl] at hkw
        have HKW := Aside0.mk hkw
        subst e0
        subst e1
        rw [Int.toNat_natCast] at m0 m1
        have U1 := Aside0.mk hlq
        have U2 := Aside0.mk hcq
        have U3 := Aside0.mk hlr
        have U4 := Aside0.mk hcr
        have hw : IntKind.i64.wrap ((j : Int) + 1) = ((j + 1 : Nat) : Int) := by
          have := HLL.out
          rw [i64_w]
          unfold Go.RowKit.wrap64
          omega
        clear hkw hlq hcq hlr hcr hql
        go_upto_region 10 with (fail)
        go_region_held3 (fun w' => w'.cell? (ad.add j) = some (.slice Aq u.length cq) ∧ w'.cell? (bd.add j) = some (.slice Br u.length dr)) (first | (with_reducible exact ⟨m0, m1⟩) | (with_reducible refine ⟨pw_cell_below ?b m0, pw_cell_below ?b m1⟩; case b => with_reducible repeat (first | exact Below.refl _ _ | apply below_drew | apply pw_below_drewN)) | go_keep) (first | (go_at_call 19; (with_reducible refine (notaryref06_Way.calls kw Aq cq u Br dr u true _ (Kd.C_below U2.out (by with_reducible repeat (first | exact Below.refl _ _ | apply below_drew))) U1.out (Kd.C_below U4.out (by with_reducible repeat (first | exact Below.refl _ _ | apply below_drew))) U3.out HKW.out).mono ?_); rintro e w6 ⟨rfl, ⟨nd, rfl⟩⟩))
        rename_i hHeld
        clear hHeld
        go_wp2
        go_roundg q
        case measure => omega
        case rel => exact ⟨j + 1, rfl, by omega, ⟨below_step HJ.out (by repeat (first | exact Below.refl _ _ | apply pw_below_drewN | apply below_drew))⟩⟩
theorem TermMeasures (w : World) (cs0 : Array Value) (x0 : T) (hK0 : k24.K w x0 cs0.toList) (hw0 : Ok x0) :
    Calls Try.prog 3 #[.agg cs0] w fun e w' => e = .returned (.bool true) ∧ Below w.heap.size w w' := by
  obtain ⟨A0, c0, e0, hc0, hC0⟩ := k24_open hK0
  obtain rfl : cs0 = #[.int .i64 x0.f0, .int .i64 x0.f1, .string x0.f2, .slice A0 x0.f3.length c0, .int .i64 x0.f4, .int .i64 x0.f5] := by rw [← e0]
  exact measures w x0 A0 c0 hc0 hC0 hw0.fine
end Go.Proofs.Ytppeaofdohghgaa.Walk
