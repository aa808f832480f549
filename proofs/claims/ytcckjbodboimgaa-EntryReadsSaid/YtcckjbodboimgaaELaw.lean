/- The laws of entries, walked. -/
import Derived.StillTailTactics
import Derived.IntWalk
import Derived.WalkSpells
import Derived.Outline
import Derived.Deep.RegionHeld3
import Derived.Test.YtcckjbodboimgaaPAllx1
import Derived.Test.YtcckjbodboimgaaPAllx2
import Derived.Test.YtcckjbodboimgaaPAllx3
namespace Go.Proofs.Ytcckjbodboimgaa.ELaw
open Go.RowKit Go.Proofs.Ytcckjbodboimgaa.PAll Go.Proofs.YtcckjbodboimgaaW.PrintWords Go.Proofs.YtcckjbodboimgaaW.PrintLast Go.Proofs.YtcckjbodboimgaaW.PrintMore
set_option linter.unusedVariables false
set_option linter.unusedSimpArgs false
abbrev TEL : Nat := 24
set_option maxHeartbeats 16000000 in
set_option maxRecDepth 100000 in
theorem reads_walk (A0 : Option Addr) (c0 : Nat) (l0 : List Int) (a1 : Int) (r1 : Int) (r2 r3 : List Int) (r4 r5 : Int) (k k1 k2 k3 : Nat) (fr : List Int) (w : World) (hr0 : Kd.C (Kd.int .u8) w A0 l0.length l0) (hc0 : l0.length ≤ c0)
    (hR : entry_Read.f l0 a1 = some (r1, r2, r3, r4, r5)) (hQ : notaryref46_Read.f k l0 a1 = some (r1, r2, r3, r4, r5)) (hS1 : notaryref46_Same.f k1 r1 r2 r1 r2 = some true) (hS2 : notaryref01_Same.f k2 r3 r3 = some true) (hW : notarylaw46_awake.f = some true)
    (hF : r5 = 0 → entry_Frame.f r1 r2 r3 = some (fr, 0)) (hS3 : notaryref01_Same.f k3 fr fr = some true) (hB : r5 = 0 → 0 ≤ a1 ∧ a1 ≤ r4 ∧ r4 ≤ (l0.length : Int) ∧ (l0.take r4.toNat).drop a1.toNat = fr) :
    Calls Try.prog 4 #[.slice A0 l0.length c0, .int .i64 a1] w fun e w' => e = .returned (.bool true) ∧ Below w.heap.size w w' := by
  have hu := Try.underlying24
  have HR := Aside0.mk hr0
  have HC := Aside0.mk hc0
  have HRd := Aside0.mk hR
  have HQd := Aside0.mk hQ
  have HS1 := Aside0.mk hS1
  have HS2 := Aside0.mk hS2
  have HS3 := Aside0.mk hS3
  have HW := Aside0.mk hW
  have HF := Aside0.mk hF
  have HBd := Aside0.mk hB
  clear hr0 hc0 hR hQ hS1 hS2 hS3 hW hF hB
  have hne5 : (r5 != r5) = false := by simp
  have hne4 : (r4 != r4) = false := by simp
  by_cases h5 : r5 = 0
  · subst h5
    have HFR := Aside0.mk (HF.out rfl)
    obtain ⟨b1, b2, b3, b4⟩ := HBd.out rfl
    clear HBd HF
    obtain ⟨i0', hi0, _, hsz0, _⟩ := info_parts info5
    obtain ⟨A9, hcut, hrd, hle⟩ := print_mid_of (P := Try.prog) (Value.int .u8) 0 22 5 .i64 .i64 Try.underlying22 hi0 hsz0 A0 c0 l0 a1 r4 b1 b2 b3 HC.out
    have hb9 := hrd w (Kd.reads_of_C HR.out)
    rw [b4] at hcut hb9 hle
    have H9 : Aside0 (Kd.C (Kd.int .u8) w A9 fr.length fr) := ⟨Kd.C_of_reads (h1 := fun _ => rfl) hb9⟩
    have HE9 := Aside0.mk hle
    generalize c0 - a1.toNat = c9 at hcut HE9
    clear hb9 hrd hle b4 hi0 hsz0 b1 b2 b3
    go_enter Try.func4, Try.ntmps4
    go_wp2_with (first | (go_at_call 15; (with_reducible refine (entry_Read.calls A0 c0 l0 a1 r1 r2 r3 r4 _ _ HR.out HC.out HRd.out).mono ?_); rintro e w1 ⟨v1, v2, rfl, ho1, ho2, hb1⟩; (obtain ⟨A1, c1, rfl⟩ := Kd.R_slice ho1); (obtain ⟨A2, c2, rfl⟩ := Kd.R_slice ho2); (have HO1 := Aside0.mk ho1); (have HO2 := Aside0.mk ho2); (have HB1 := Aside0.mk hb1); clear ho1 ho2 hb1) | (go_at_call 17; (with_reducible refine (notaryref46_Read.calls k A0 c0 l0 a1 r1 r2 r3 r4 _ _ (Kd.C_below HR.out (by repeat (first | exact HB1.out | apply below_alloc | apply below_drew))) HC.out HQd.out).mono ?_); rintro e w2 ⟨v1, v2, rfl, ho1, ho2, hb1⟩; (obtain ⟨A3, c3, rfl⟩ := Kd.R_slice ho1); (obtain ⟨A4, c4, rfl⟩ := Kd.R_slice ho2); (have hk5 : w2.heap[w1.heap.size]? = some (.cells #[.int .i64 r1, .slice A1 r2.length c1] TEL (0, 0)) := blk_below (by repeat (first | exact blk_new _ _ | apply blk_drew)) hb1); (have HB12 : Aside0 (Below w1.heap.size w1 w2) := ⟨below_step (by repeat (first | exact Below.refl _ _ | apply below_alloc | apply below_drew)) hb1⟩); (have s0 : w2.cell? ⟨w1.heap.size, 0, none⟩ = some (.int .i64 r1) := (blk_cell hk5 0).trans rfl); (have s1 : w2.cell? ⟨w1.heap.size, 1, none⟩ = some (.slice A1 r2.length c1) := (blk_cell hk5 1).trans rfl); (have a0 : ∀ o, (w2.alloc o).cell? ⟨w1.heap.size, 0, none⟩ = some (.int .i64 r1) := fun o => (blk_cell (blk_alloc hk5 o) 0).trans rfl); (have a1' : ∀ o, (w2.alloc o).cell? ⟨w1.heap.size, 1, none⟩ = some (.slice A1 r2.length c1) := fun o => (blk_cell (blk_alloc hk5 o) 1).trans rfl); (have HK5 := Aside0.mk hk5); (have HO3 := Aside0.mk ho1); (have HO4 := Aside0.mk ho2); (have HB2 : Aside0 (Below w.heap.size w w2) := ⟨below_step (by repeat (first | exact HB1.out | apply below_alloc | apply below_drew)) hb1⟩); clear ho1 ho2 hb1 hk5) | (go_at_call 16; (with_reducible refine (notaryref46_Same.calls k1 r1 A1 c1 r2 r1 A3 c3 r2 true _ (Kd.C_below (Kd.R_reads' HO1.out).2.2 (by repeat (first | exact HB12.out | apply below_alloc | apply below_drew))) (Kd.R_reads' HO1.out).2.1 (Kd.C_below (Kd.R_reads' HO3.out).2.2 (by repeat (first | exact Below.refl _ _ | apply below_alloc | apply below_drew))) (Kd.R_reads' HO3.out).2.1 HS1.out).mono ?_); rintro e w3 ⟨rfl, hb3⟩; (have hk6 : w3.heap[w1.heap.size]? = some (.cells #[.int .i64 r1, .slice A1 r2.length c1] TEL (0, 0)) := blk_below (by repeat (first | exact HK5.out | apply blk_alloc | apply blk_drew)) hb3); (have t0 : ∀ n, (w3.drewN n).cell? ⟨w1.heap.size, 0, none⟩ = some (.int .i64 r1) := fun n => (blk_cell (blk_drewN hk6 n) 0).trans rfl); (have t1 : ∀ n, (w3.drewN n).cell? ⟨w1.heap.size, 1, none⟩ = some (.slice A1 r2.length c1) := fun n => (blk_cell (blk_drewN hk6 n) 1).trans rfl); (have HB23 : Aside0 (Below w2.heap.size w2 w3) := ⟨below_step (by repeat (first | exact Below.refl _ _ | apply below_alloc | apply below_drew)) hb3⟩); (have HB13 : Aside0 (Below w1.heap.size w1 w3) := ⟨below_step HB12.out HB23.out⟩); (have HB3 : Aside0 (Below w.heap.size w w3) := ⟨below_step HB2.out HB23.out⟩); clear hb3 hk6) | (go_at_call 14; (with_reducible refine (notaryref01_Same.calls k2 A2 c2 r3 A4 c4 r3 true _ (Kd.C_below (Kd.R_reads' HO2.out).2.2 HB13.out) (Kd.R_reads' HO2.out).2.1 (Kd.C_below (Kd.R_reads' HO4.out).2.2 HB23.out) (Kd.R_reads' HO4.out).2.1 HS2.out).mono ?_); rintro e w' ⟨rfl, ⟨nd, rfl⟩⟩) | (go_at_call 12; (with_reducible refine (entry_Frame.calls r1 A1 c1 r2 A2 c2 r3 fr 0 _ (Kd.C_below (Kd.R_reads' HO1.out).2.2 (pw_below_drewN HB13.out nd)) (Kd.R_reads' HO1.out).2.1 (Kd.C_below (Kd.R_reads' HO2.out).2.2 (pw_below_drewN HB13.out nd)) (Kd.R_reads' HO2.out).2.1 HFR.out).mono ?_); rintro e w4 ⟨v4, rfl, ho4, hb4⟩; (obtain ⟨A7, c7, rfl⟩ := Kd.R_slice ho4); (have HO7 := Aside0.mk ho4); (have HB4 : Aside0 (Below w.heap.size w w4) := ⟨below_step (pw_below_drewN HB3.out nd) hb4⟩); clear ho4 hb4) | (go_at_call 14; (with_reducible refine (notaryref01_Same.calls k3 A7 c7 fr A9 c9 fr true _ (Kd.R_reads' HO7.out).2.2 (Kd.R_reads' HO7.out).2.1 (Kd.C_below H9.out HB4.out) HE9.out HS3.out).mono ?_); rintro e w' ⟨rfl, ⟨nd2, rfl⟩⟩) | (go_at_call 9; (with_reducible refine (notarylaw46_awake.calls true _ HW.out).mono ?_); rintro e wb ⟨rfl, hbb⟩; have HBb := Aside0.mk hbb; clear hbb))
    go_ret
    exact ⟨rfl, below_step (pw_below_drewN HB4.out _) HBb.out⟩
  · have hz5 : (r5 != 0) = true := by simpa using h5
    clear HF HBd h5
    go_enter Try.func4, Try.ntmps4
    go_wp2_with (first | (go_at_call 15; (with_reducible refine (entry_Read.calls A0 c0 l0 a1 r1 r2 r3 r4 _ _ HR.out HC.out HRd.out).mono ?_); rintro e w1 ⟨v1, v2, rfl, ho1, ho2, hb1⟩; (obtain ⟨A1, c1, rfl⟩ := Kd.R_slice ho1); (obtain ⟨A2, c2, rfl⟩ := Kd.R_slice ho2); (have HO1 := Aside0.mk ho1); (have HO2 := Aside0.mk ho2); (have HB1 := Aside0.mk hb1); clear ho1 ho2 hb1) | (go_at_call 17; (with_reducible refine (notaryref46_Read.calls k A0 c0 l0 a1 r1 r2 r3 r4 _ _ (Kd.C_below HR.out (by repeat (first | exact HB1.out | apply below_alloc | apply below_drew))) HC.out HQd.out).mono ?_); rintro e w2 ⟨v1, v2, rfl, ho1, ho2, hb1⟩; (obtain ⟨A3, c3, rfl⟩ := Kd.R_slice ho1); (obtain ⟨A4, c4, rfl⟩ := Kd.R_slice ho2); (have hk5 : w2.heap[w1.heap.size]? = some (.cells #[.int .i64 r1, .slice A1 r2.length c1] TEL (0, 0)) := blk_below (by repeat (first | exact blk_new _ _ | apply blk_drew)) hb1); (have HB12 : Aside0 (Below w1.heap.size w1 w2) := ⟨below_step (by repeat (first | exact Below.refl _ _ | apply below_alloc | apply below_drew)) hb1⟩); (have s0 : w2.cell? ⟨w1.heap.size, 0, none⟩ = some (.int .i64 r1) := (blk_cell hk5 0).trans rfl); (have s1 : w2.cell? ⟨w1.heap.size, 1, none⟩ = some (.slice A1 r2.length c1) := (blk_cell hk5 1).trans rfl); (have a0 : ∀ o, (w2.alloc o).cell? ⟨w1.heap.size, 0, none⟩ = some (.int .i64 r1) := fun o => (blk_cell (blk_alloc hk5 o) 0).trans rfl); (have a1' : ∀ o, (w2.alloc o).cell? ⟨w1.heap.size, 1, none⟩ = some (.slice A1 r2.length c1) := fun o => (blk_cell (blk_alloc hk5 o) 1).trans rfl); (have HK5 := Aside0.mk hk5); (have HO3 := Aside0.mk ho1); (have HO4 := Aside0.mk ho2); (have HB2 : Aside0 (Below w.heap.size w w2) := ⟨below_step (by repeat (first | exact HB1.out | apply below_alloc | apply below_drew)) hb1⟩); clear ho1 ho2 hb1 hk5) | (go_at_call 16; (with_reducible refine (notaryref46_Same.calls k1 r1 A1 c1 r2 r1 A3 c3 r2 true _ (Kd.C_below (Kd.R_reads' HO1.out).2.2 (by repeat (first | exact HB12.out | apply below_alloc | apply below_drew))) (Kd.R_reads' HO1.out).2.1 (Kd.C_below (Kd.R_reads' HO3.out).2.2 (by repeat (first | exact Below.refl _ _ | apply below_alloc | apply below_drew))) (Kd.R_reads' HO3.out).2.1 HS1.out).mono ?_); rintro e w3 ⟨rfl, hb3⟩; (have hk6 : w3.heap[w1.heap.size]? = some (.cells #[.int .i64 r1, .slice A1 r2.length c1] TEL (0, 0)) := blk_below (by repeat (first | exact HK5.out | apply blk_alloc | apply blk_drew)) hb3); (have t0 : ∀ n, (w3.drewN n).cell? ⟨w1.heap.size, 0, none⟩ = some (.int .i64 r1) := fun n => (blk_cell (blk_drewN hk6 n) 0).trans rfl); (have t1 : ∀ n, (w3.drewN n).cell? ⟨w1.heap.size, 1, none⟩ = some (.slice A1 r2.length c1) := fun n => (blk_cell (blk_drewN hk6 n) 1).trans rfl); (have HB23 : Aside0 (Below w2.heap.size w2 w3) := ⟨below_step (by repeat (first | exact Below.refl _ _ | apply below_alloc | apply below_drew)) hb3⟩); (have HB13 : Aside0 (Below w1.heap.size w1 w3) := ⟨below_step HB12.out HB23.out⟩); (have HB3 : Aside0 (Below w.heap.size w w3) := ⟨below_step HB2.out HB23.out⟩); clear hb3 hk6) | (go_at_call 14; (with_reducible refine (notaryref01_Same.calls k2 A2 c2 r3 A4 c4 r3 true _ (Kd.C_below (Kd.R_reads' HO2.out).2.2 HB13.out) (Kd.R_reads' HO2.out).2.1 (Kd.C_below (Kd.R_reads' HO4.out).2.2 HB23.out) (Kd.R_reads' HO4.out).2.1 HS2.out).mono ?_); rintro e w' ⟨rfl, ⟨nd, rfl⟩⟩) | (go_at_call 12; (with_reducible refine (entry_Frame.calls r1 A1 c1 r2 A2 c2 r3 fr 0 _ (Kd.C_below (Kd.R_reads' HO1.out).2.2 (pw_below_drewN HB13.out nd)) (Kd.R_reads' HO1.out).2.1 (Kd.C_below (Kd.R_reads' HO2.out).2.2 (pw_below_drewN HB13.out nd)) (Kd.R_reads' HO2.out).2.1 HFR.out).mono ?_); rintro e w4 ⟨v4, rfl, ho4, hb4⟩; (obtain ⟨A7, c7, rfl⟩ := Kd.R_slice ho4); (have HO7 := Aside0.mk ho4); (have HB4 : Aside0 (Below w.heap.size w w4) := ⟨below_step (pw_below_drewN HB3.out nd) hb4⟩); clear ho4 hb4) | (go_at_call 14; (with_reducible refine (notaryref01_Same.calls k3 A7 c7 fr A9 c9 fr true _ (Kd.R_reads' HO7.out).2.2 (Kd.R_reads' HO7.out).2.1 (Kd.C_below H9.out HB4.out) HE9.out HS3.out).mono ?_); rintro e w' ⟨rfl, ⟨nd2, rfl⟩⟩) | (go_at_call 9; (with_reducible refine (notarylaw46_awake.calls true _ HW.out).mono ?_); rintro e wb ⟨rfl, hbb⟩; have HBb := Aside0.mk hbb; clear hbb))
    go_ret
    exact ⟨rfl, below_step (pw_below_drewN HB3.out _) HBb.out⟩
end Go.Proofs.Ytcckjbodboimgaa.ELaw
