/- The law of terms that are alike, for every input of its row. -/
import Derived.StillTailTactics
import Derived.IntWalk
import Derived.WalkSpells
import Derived.Outline
import Derived.Test.YtppeaofdohghgaaLTermS
import Derived.Test.YtppeaofdohghgaaWTermOp
import Derived.Test.YtppeaofdohghgaaPTmx1
import Derived.Test.YtppeaofdohghgaaPTmx2
import Derived.Test.YtppeaofdohghgaaPTmx3
namespace Go.Proofs.Ytppeaofdohghgaa.Walk
set_option linter.unusedVariables false
set_option linter.unusedSimpArgs false
open Go.RowKit Go.Proofs.Ytppeaofdohghgaa.PTm Go.Proofs.Ytppeaofdohghgaa.SOpen Go.Proofs.YtppeaofdohghgaaW.PrintWords Go.Proofs.YtppeaofdohghgaaW.PrintLast Go.Proofs.YtppeaofdohghgaaW.PrintMore
open LTerm (T)
theorem opInts : SOpen.Op Try.prog 33 (Kd.slice 3 (Kd.int .i64)) (fun l => l.length ≤ maxLen ∧ ∀ x ∈ l, (Lit.int .i64 x).wf = true) :=
  op_mono (op_slice Try.underlying33 (by kernel_rfl) (op_int Try.underlying3)) (fun _ h => h)
theorem awake_ret (w : World) : Calls Try.prog 9 #[] w fun e w' => e = .returned (.bool true) ∧ Below w.heap.size w w' := by
  obtain ⟨k, hk⟩ := Ev.rounds LTerm.awake_ev
  exact notarylaw06_awake.calls k true w hk
set_option maxHeartbeats 4000000 in
set_option maxRecDepth 100000 in
theorem sames (w : World) (a b : T) (A0 A1 : Option Addr) (c0 c1 : Nat) (hc0 : a.f3.length ≤ c0) (hC0 : Kd.C k24 w A0 a.f3.length a.f3) (hf0 : LTerm.Fine a) (hc1 : b.f3.length ≤ c1) (hC1 : Kd.C k24 w A1 b.f3.length b.f3) (hf1 : LTerm.Fine b)
    (A2 : Option Addr) (c2 : Nat) (p : List Int) (hc2 : p.length ≤ c2) (hC2 : Kd.C (Kd.int .i64) w A2 p.length p) :
    Calls Try.prog 5 #[.agg #[.int .i64 a.f0, .int .i64 a.f1, .string a.f2, .slice A0 a.f3.length c0, .int .i64 a.f4, .int .i64 a.f5], .agg #[.int .i64 b.f0, .int .i64 b.f1, .string b.f2, .slice A1 b.f3.length c1, .int .i64 b.f4, .int .i64 b.f5], .slice A2 p.length c2] w fun e w' => e = .returned (.bool true) ∧ Below w.heap.size w w' := by
  obtain ⟨la, hla, hsa⟩ := LTerm.large_ev a hf0
  obtain ⟨lb, hlb, hsb⟩ := LTerm.large_ev b hf1
  obtain ⟨k1, hk1⟩ := Ev.rounds hla
  obtain ⟨k2, hk2⟩ := Ev.rounds hlb
  have HC0 := Aside0.mk hC0
  have HC1 := Aside0.mk hC1
  have HC2 := Aside0.mk hC2
  have HL0 := Aside0.mk hc0
  have HL1 := Aside0.mk hc1
  have HL2 := Aside0.mk hc2
  have HK1 := Aside0.mk hk1
  have HK2 := Aside0.mk hk2
  clear hC0 hC1 hC2 hc0 hc1 hc2 hla hlb hk1 hk2
  cases la with
  | true =>
    clear hsa hsb
    go_enter Try.func5, Try.ntmps5
    go_wp2_with (first | (go_at_call 8; (with_reducible refine (notaryref06_Large.calls k1 a.f0 a.f1 a.f2 A0 c0 a.f3 a.f4 a.f5 true _ (Kd.C_below HC0.out (by repeat (first | exact Below.refl _ _ | apply below_alloc))) HL0.out HK1.out).mono ?_); rintro e w1 ⟨rfl, hb1⟩; (have HB1 : Aside0 (Below w.heap.size w w1) := ⟨below_step (by repeat (first | exact Below.refl _ _ | apply below_alloc)) hb1⟩); clear hb1) | (go_at_call 9; (with_reducible refine (awake_ret _).mono ?_); rintro e w2 ⟨rfl, hb2⟩; (have HB2 : Aside0 (Below w.heap.size w w2) := ⟨below_step HB1.out hb2⟩); clear hb2))
    go_ret
    exact ⟨rfl, HB2.out⟩
  | false =>
  obtain ⟨hs70, hsz⟩ := hsa rfl
  obtain ⟨r, hr1, hr2⟩ := LTerm.same_both a b hf0
  obtain ⟨y, hy1, hy2⟩ := LTerm.bare_ev a 70 hs70
  obtain ⟨k3, hk3⟩ := Ev.rounds hr1
  obtain ⟨k4, hk4⟩ := Ev.rounds hr2
  obtain ⟨k5, hk5⟩ := Ev.rounds hy1
  obtain ⟨k6, hk6⟩ := Ev.rounds hy2
  have HK3 := Aside0.mk hk3
  have HK4 := Aside0.mk hk4
  have HK5 := Aside0.mk hk5
  have HK6 := Aside0.mk hk6
  clear hr1 hr2 hy1 hy2 hk3 hk4 hk5 hk6 hsa hsb
  go_enter Try.func5, Try.ntmps5
  go_upto_region 1 with (fail)
  obtain ⟨W0, hW0⟩ : ∃ W0 : World, W0 = (w.alloc (.cells #[.int .i64 a.f0, .int .i64 a.f1, .string a.f2, .slice A0 a.f3.length c0, .int .i64 a.f4, .int .i64 a.f5] 24)).alloc (.cells #[.int .i64 b.f0, .int .i64 b.f1, .string b.f2, .slice A1 b.f3.length c1, .int .i64 b.f4, .int .i64 b.f5] 24) := ⟨_, rfl⟩
  have hb0 : Below w.heap.size w W0 := by rw [hW0]; exact below_alloc (below_alloc (Below.refl _ _) _) _
  have q0 : W0.heap[w.heap.size]? = some (.cells #[.int .i64 a.f0, .int .i64 a.f1, .string a.f2, .slice A0 a.f3.length c0, .int .i64 a.f4, .int .i64 a.f5] 24 (0, 0)) := by rw [hW0]; exact blk_alloc (blk_new _ _) _
  have q1 : W0.heap[w.heap.size + 1]? = some (.cells #[.int .i64 b.f0, .int .i64 b.f1, .string b.f2, .slice A1 b.f3.length c1, .int .i64 b.f4, .int .i64 b.f5] 24 (0, 0)) := by rw [hW0]; have h := blk_new (w.alloc (.cells #[.int .i64 a.f0, .int .i64 a.f1, .string a.f2, .slice A0 a.f3.length c0, .int .i64 a.f4, .int .i64 a.f5] 24)) (.cells #[.int .i64 b.f0, .int .i64 b.f1, .string b.f2, .slice A1 b.f3.length c1, .int .i64 b.f4, .int .i64 b.f5] 24); rwa [show (w.alloc (.cells #[.int .i64 a.f0, .int .i64 a.f1, .string a.f2, .slice A0 a.f3.length c0, .int .i64 a.f4, .int .i64 a.f5] 24)).heap.size = w.heap.size + 1 by simp] at h
  rw [← hW0]
  have HB0 := Aside0.mk hb0
  have D0 := Aside0.mk (Kd.C_below HC0.out hb0)
  have D1 := Aside0.mk (Kd.C_below HC1.out hb0)
  have D2 := Aside0.mk (Kd.C_below HC2.out hb0)
  have Q0 := Aside0.mk q0
  have Q1 := Aside0.mk q1
  have a0 : W0.cell? ⟨w.heap.size, 0, none⟩ = some (.int .i64 a.f0) := (blk_cell q0 0).trans rfl
  have a1 : W0.cell? ⟨w.heap.size, 1, none⟩ = some (.int .i64 a.f1) := (blk_cell q0 1).trans rfl
  have a2 : W0.cell? ⟨w.heap.size, 2, none⟩ = some (.string a.f2) := (blk_cell q0 2).trans rfl
  have a3 : W0.cell? ⟨w.heap.size, 3, none⟩ = some (.slice A0 a.f3.length c0) := (blk_cell q0 3).trans rfl
  have a4 : W0.cell? ⟨w.heap.size, 4, none⟩ = some (.int .i64 a.f4) := (blk_cell q0 4).trans rfl
  have a5 : W0.cell? ⟨w.heap.size, 5, none⟩ = some (.int .i64 a.f5) := (blk_cell q0 5).trans rfl
  have b0 : W0.cell? ⟨w.heap.size + 1, 0, none⟩ = some (.int .i64 b.f0) := (blk_cell q1 0).trans rfl
  have b1 : W0.cell? ⟨w.heap.size + 1, 1, none⟩ = some (.int .i64 b.f1) := (blk_cell q1 1).trans rfl
  have b2 : W0.cell? ⟨w.heap.size + 1, 2, none⟩ = some (.string b.f2) := (blk_cell q1 2).trans rfl
  have b3 : W0.cell? ⟨w.heap.size + 1, 3, none⟩ = some (.slice A1 b.f3.length c1) := (blk_cell q1 3).trans rfl
  have b4 : W0.cell? ⟨w.heap.size + 1, 4, none⟩ = some (.int .i64 b.f4) := (blk_cell q1 4).trans rfl
  have b5 : W0.cell? ⟨w.heap.size + 1, 5, none⟩ = some (.int .i64 b.f5) := (blk_cell q1 5).trans rfl
  clear hW0 hb0 q0 q1 HC0 HC1 HC2
  cases lb with
  | true =>
    go_wp2_with (first | (go_at_call 8; (with_reducible refine (notaryref06_Large.calls k1 a.f0 a.f1 a.f2 A0 c0 a.f3 a.f4 a.f5 false _ (Kd.C_below D0.out (by with_reducible repeat (first | exact HX9.out | exact HX8.out | exact HX7.out | exact HX6.out | exact HX5.out | exact HX4.out | exact HX3.out | exact HX2.out | exact HX1.out | exact Below.refl _ _ | apply below_alloc | apply below_drew))) HL0.out HK1.out).mono ?_); rintro e w1 ⟨rfl, hb1⟩; (have HX1 : Aside0 (Below W0.heap.size W0 w1) := ⟨below_step (by with_reducible repeat (first | exact HX9.out | exact HX8.out | exact HX7.out | exact HX6.out | exact HX5.out | exact HX4.out | exact HX3.out | exact HX2.out | exact HX1.out | exact Below.refl _ _ | apply below_alloc | apply below_drew)) hb1⟩); (have g0 := pw_cell_below HX1.out b0); (have g1 := pw_cell_below HX1.out b1); (have g2 := pw_cell_below HX1.out b2); (have g3 := pw_cell_below HX1.out b3); (have g4 := pw_cell_below HX1.out b4); (have g5 := pw_cell_below HX1.out b5); clear hb1) | (go_at_call 8; (with_reducible refine (notaryref06_Large.calls k2 b.f0 b.f1 b.f2 A1 c1 b.f3 b.f4 b.f5 true _ (Kd.C_below D1.out (by with_reducible repeat (first | exact HX9.out | exact HX8.out | exact HX7.out | exact HX6.out | exact HX5.out | exact HX4.out | exact HX3.out | exact HX2.out | exact HX1.out | exact Below.refl _ _ | apply below_alloc | apply below_drew))) HL1.out HK2.out).mono ?_); rintro e w2 ⟨rfl, hb2⟩; (have HX2 : Aside0 (Below W0.heap.size W0 w2) := ⟨below_step (by with_reducible repeat (first | exact HX9.out | exact HX8.out | exact HX7.out | exact HX6.out | exact HX5.out | exact HX4.out | exact HX3.out | exact HX2.out | exact HX1.out | exact Below.refl _ _ | apply below_alloc | apply below_drew)) hb2⟩); clear hb2) | (go_at_call 9; (with_reducible refine (awake_ret _).mono ?_); rintro e w3 ⟨rfl, hb3⟩; (have HX3 : Aside0 (Below W0.heap.size W0 w3) := ⟨below_step (by with_reducible repeat (first | exact HX9.out | exact HX8.out | exact HX7.out | exact HX6.out | exact HX5.out | exact HX4.out | exact HX3.out | exact HX2.out | exact HX1.out | exact Below.refl _ _ | apply below_alloc | apply below_drew)) hb3⟩); clear hb3))
    go_ret
    exact ⟨rfl, below_step HB0.out HX3.out⟩
  | false =>
  have AA := Aside0.mk (And.intro a0 (And.intro a1 (And.intro a2 (And.intro a3 (And.intro a4 a5)))))
  have BB := Aside0.mk (And.intro b0 (And.intro b1 (And.intro b2 (And.intro b3 (And.intro b4 b5)))))
  by_cases hp : 100 < p.length
  · have d1 : decide (100 < p.length) = true := decide_eq_true hp
    have d2 : decide (100 < (p.length : Int)) = true := decide_eq_true (by omega)
    clear hp
    go_wp2_with (first | (go_at_call 8; (with_reducible refine (notaryref06_Large.calls k1 a.f0 a.f1 a.f2 A0 c0 a.f3 a.f4 a.f5 false _ (Kd.C_below D0.out (by with_reducible repeat (first | exact HX9.out | exact HX8.out | exact HX7.out | exact HX6.out | exact HX5.out | exact HX4.out | exact HX3.out | exact HX2.out | exact HX1.out | exact Below.refl _ _ | apply below_alloc | apply below_drew))) HL0.out HK1.out).mono ?_); rintro e w1 ⟨rfl, hb1⟩; (have HX1 : Aside0 (Below W0.heap.size W0 w1) := ⟨below_step (by with_reducible repeat (first | exact HX9.out | exact HX8.out | exact HX7.out | exact HX6.out | exact HX5.out | exact HX4.out | exact HX3.out | exact HX2.out | exact HX1.out | exact Below.refl _ _ | apply below_alloc | apply below_drew)) hb1⟩); (have g0 := pw_cell_below HX1.out b0); (have g1 := pw_cell_below HX1.out b1); (have g2 := pw_cell_below HX1.out b2); (have g3 := pw_cell_below HX1.out b3); (have g4 := pw_cell_below HX1.out b4); (have g5 := pw_cell_below HX1.out b5); clear hb1) | (go_at_call 8; (with_reducible refine (notaryref06_Large.calls k2 b.f0 b.f1 b.f2 A1 c1 b.f3 b.f4 b.f5 false _ (Kd.C_below D1.out (by with_reducible repeat (first | exact HX9.out | exact HX8.out | exact HX7.out | exact HX6.out | exact HX5.out | exact HX4.out | exact HX3.out | exact HX2.out | exact HX1.out | exact Below.refl _ _ | apply below_alloc | apply below_drew))) HL1.out HK2.out).mono ?_); rintro e w2 ⟨rfl, hb2⟩; (have HX2 : Aside0 (Below W0.heap.size W0 w2) := ⟨below_step (by with_reducible repeat (first | exact HX9.out | exact HX8.out | exact HX7.out | exact HX6.out | exact HX5.out | exact HX4.out | exact HX3.out | exact HX2.out | exact HX1.out | exact Below.refl _ _ | apply below_alloc | apply below_drew)) hb2⟩); clear hb2) | (go_at_call 9; (with_reducible refine (awake_ret _).mono ?_); rintro e w3 ⟨rfl, hb3⟩; (have HX3 : Aside0 (Below W0.heap.size W0 w3) := ⟨below_step (by with_reducible repeat (first | exact HX9.out | exact HX8.out | exact HX7.out | exact HX6.out | exact HX5.out | exact HX4.out | exact HX3.out | exact HX2.out | exact HX1.out | exact Below.refl _ _ | apply below_alloc | apply below_drew)) hb3⟩); clear hb3))
    go_ret
    exact ⟨rfl, below_step HB0.out HX3.out⟩
  have d1 : decide (100 < p.length) = false := decide_eq_false hp
  have d2 : decide (100 < (p.length : Int)) = false := decide_eq_false (by omega)
  have HP := Aside0.mk (show p.length ≤ 100 by omega)
  clear hp
  go_upto_region 3 with (first | (go_at_call 8; (with_reducible refine (notaryref06_Large.calls k1 a.f0 a.f1 a.f2 A0 c0 a.f3 a.f4 a.f5 false _ (Kd.C_below D0.out (by with_reducible repeat (first | exact HX9.out | exact HX8.out | exact HX7.out | exact HX6.out | exact HX5.out | exact HX4.out | exact HX3.out | exact HX2.out | exact HX1.out | exact Below.refl _ _ | apply below_alloc | apply below_drew))) HL0.out HK1.out).mono ?_); rintro e w1 ⟨rfl, hb1⟩; (have HX1 : Aside0 (Below W0.heap.size W0 w1) := ⟨below_step (by with_reducible repeat (first | exact HX9.out | exact HX8.out | exact HX7.out | exact HX6.out | exact HX5.out | exact HX4.out | exact HX3.out | exact HX2.out | exact HX1.out | exact Below.refl _ _ | apply below_alloc | apply below_drew)) hb1⟩); (have g0 := pw_cell_below HX1.out b0); (have g1 := pw_cell_below HX1.out b1); (have g2 := pw_cell_below HX1.out b2); (have g3 := pw_cell_below HX1.out b3); (have g4 := pw_cell_below HX1.out b4); (have g5 := pw_cell_below HX1.out b5); clear hb1) | (go_at_call 8; (with_reducible refine (notaryref06_Large.calls k2 b.f0 b.f1 b.f2 A1 c1 b.f3 b.f4 b.f5 false _ (Kd.C_below D1.out (by with_reducible repeat (first | exact HX9.out | exact HX8.out | exact HX7.out | exact HX6.out | exact HX5.out | exact HX4.out | exact HX3.out | exact HX2.out | exact HX1.out | exact Below.refl _ _ | apply below_alloc | apply below_drew))) HL1.out HK2.out).mono ?_); rintro e w2 ⟨rfl, hb2⟩; (have HX2 : Aside0 (Below W0.heap.size W0 w2) := ⟨below_step (by with_reducible repeat (first | exact HX9.out | exact HX8.out | exact HX7.out | exact HX6.out | exact HX5.out | exact HX4.out | exact HX3.out | exact HX2.out | exact HX1.out | exact Below.refl _ _ | apply below_alloc | apply below_drew)) hb2⟩); clear hb2) | (go_at_call 9; (with_reducible refine (awake_ret _).mono ?_); rintro e w3 ⟨rfl, hb3⟩; (have HX3 : Aside0 (Below W0.heap.size W0 w3) := ⟨below_step (by with_reducible repeat (first | exact HX9.out | exact HX8.out | exact HX7.out | exact HX6.out | exact HX5.out | exact HX4.out | exact HX3.out | exact HX2.out | exact HX1.out | exact Below.refl _ _ | apply below_alloc | apply below_drew)) hb3⟩); clear hb3))
  clear a0 a1 a2 a3 a4 a5 b0 b1 b2 b3 b4 b5 g0 g1 g2 g3 g4 g5
  go_cut [35] (fun v35 wc => v35 = .bool false ∧ Aside0 (Below W0.heap.size W0 wc))
  case first =>
    have hrr : (r != r) = false := by simp
    go_region_held3 (fun w' => w'.cell? ⟨w.heap.size, 0, none⟩ = some (.int .i64 a.f0) ∧ w'.cell? ⟨w.heap.size, 1, none⟩ = some (.int .i64 a.f1) ∧ w'.cell? ⟨w.heap.size, 2, none⟩ = some (.string a.f2) ∧ w'.cell? ⟨w.heap.size, 3, none⟩ = some (.slice A0 a.f3.length c0) ∧ w'.cell? ⟨w.heap.size, 4, none⟩ = some (.int .i64 a.f4) ∧ w'.cell? ⟨w.heap.size, 5, none⟩ = some (.int .i64 a.f5) ∧ w'.cell? ⟨w.heap.size + 1, 0, none⟩ = some (.int .i64 b.f0) ∧ w'.cell? ⟨w.heap.size + 1, 1, none⟩ = some (.int .i64 b.f1) ∧ w'.cell? ⟨w.heap.size + 1, 2, none⟩ = some (.string b.f2) ∧ w'.cell? ⟨w.heap.size + 1, 3, none⟩ = some (.slice A1 b.f3.length c1) ∧ w'.cell? ⟨w.heap.size + 1, 4, none⟩ = some (.int .i64 b.f4) ∧ w'.cell? ⟨w.heap.size + 1, 5, none⟩ = some (.int .i64 b.f5)) (first | (with_reducible refine ⟨pw_cell_below ?b AA.out.1, pw_cell_below ?b AA.out.2.1, pw_cell_below ?b AA.out.2.2.1, pw_cell_below ?b AA.out.2.2.2.1, pw_cell_below ?b AA.out.2.2.2.2.1, pw_cell_below ?b AA.out.2.2.2.2.2, pw_cell_below ?b BB.out.1, pw_cell_below ?b BB.out.2.1, pw_cell_below ?b BB.out.2.2.1, pw_cell_below ?b BB.out.2.2.2.1, pw_cell_below ?b BB.out.2.2.2.2.1, pw_cell_below ?b BB.out.2.2.2.2.2⟩; case b => exact (by with_reducible repeat (first | exact HX9.out | exact HX8.out | exact HX7.out | exact HX6.out | exact HX5.out | exact HX4.out | exact HX3.out | exact HX2.out | exact HX1.out | exact Below.refl _ _ | apply below_alloc | apply below_drew))) | go_keep) (first | (go_at_call 26; (with_reducible refine (term_Same.calls k3 a.f0 a.f1 a.f2 A0 c0 a.f3 a.f4 a.f5 b.f0 b.f1 b.f2 A1 c1 b.f3 b.f4 b.f5 r _ (Kd.C_below D0.out (by with_reducible repeat (first | exact HX9.out | exact HX8.out | exact HX7.out | exact HX6.out | exact HX5.out | exact HX4.out | exact HX3.out | exact HX2.out | exact HX1.out | exact Below.refl _ _ | apply below_alloc | apply below_drew))) HL0.out (Kd.C_below D1.out (by with_reducible repeat (first | exact HX9.out | exact HX8.out | exact HX7.out | exact HX6.out | exact HX5.out | exact HX4.out | exact HX3.out | exact HX2.out | exact HX1.out | exact Below.refl _ _ | apply below_alloc | apply below_drew))) HL1.out HK3.out).mono ?_); rintro e w4 ⟨rfl, hb4⟩; (have HX4 : Aside0 (Below W0.heap.size W0 w4) := ⟨below_step (by with_reducible repeat (first | exact HX9.out | exact HX8.out | exact HX7.out | exact HX6.out | exact HX5.out | exact HX4.out | exact HX3.out | exact HX2.out | exact HX1.out | exact Below.refl _ _ | apply below_alloc | apply below_drew)) hb4⟩); clear hb4) | (go_at_call 27; (with_reducible refine (notaryref06_Same.calls k4 a.f0 a.f1 a.f2 A0 c0 a.f3 a.f4 a.f5 b.f0 b.f1 b.f2 A1 c1 b.f3 b.f4 b.f5 r _ (Kd.C_below D0.out (by with_reducible repeat (first | exact HX9.out | exact HX8.out | exact HX7.out | exact HX6.out | exact HX5.out | exact HX4.out | exact HX3.out | exact HX2.out | exact HX1.out | exact Below.refl _ _ | apply below_alloc | apply below_drew))) HL0.out (Kd.C_below D1.out (by with_reducible repeat (first | exact HX9.out | exact HX8.out | exact HX7.out | exact HX6.out | exact HX5.out | exact HX4.out | exact HX3.out | exact HX2.out | exact HX1.out | exact Below.refl _ _ | apply below_alloc | apply below_drew))) HL1.out HK4.out).mono ?_); rintro e w5 ⟨rfl, hb5⟩; (have HX5 : Aside0 (Below W0.heap.size W0 w5) := ⟨below_step (by with_reducible repeat (first | exact HX9.out | exact HX8.out | exact HX7.out | exact HX6.out | exact HX5.out | exact HX4.out | exact HX3.out | exact HX2.out | exact HX1.out | exact Below.refl _ _ | apply below_alloc | apply below_drew)) hb5⟩); clear hb5) | (go_at_call 17; (with_reducible refine (term_Bare.calls k5 a A0 c0 y _ (Kd.C_below D0.out (by with_reducible repeat (first | exact HX9.out | exact HX8.out | exact HX7.out | exact HX6.out | exact HX5.out | exact HX4.out | exact HX3.out | exact HX2.out | exact HX1.out | exact Below.refl _ _ | apply below_alloc | apply below_drew))) HL0.out HK5.out).mono ?_); rintro e w6 ⟨A6, c6, rfl, hc6, hF6, hb6⟩; (have HX6 : Aside0 (Below W0.heap.size W0 w6) := ⟨below_step (by with_reducible repeat (first | exact HX9.out | exact HX8.out | exact HX7.out | exact HX6.out | exact HX5.out | exact HX4.out | exact HX3.out | exact HX2.out | exact HX1.out | exact Below.refl _ _ | apply below_alloc | apply below_drew)) hb6⟩); (have HC6 := Aside0.mk hc6); (have HF6 := Aside0.mk hF6); clear hb6 hc6 hF6) | (go_at_call 26; (with_reducible refine (term_Same.calls k6 a.f0 a.f1 a.f2 A0 c0 a.f3 a.f4 a.f5 y.f0 y.f1 y.f2 A6 c6 y.f3 y.f4 y.f5 true _ (Kd.C_below D0.out (by with_reducible repeat (first | exact HX9.out | exact HX8.out | exact HX7.out | exact HX6.out | exact HX5.out | exact HX4.out | exact HX3.out | exact HX2.out | exact HX1.out | exact Below.refl _ _ | apply below_alloc | apply below_drew))) HL0.out (Kd.C_below (Kd.F_now HF6.out) (by with_reducible repeat (first | exact Below.refl _ _ | apply below_alloc | apply below_drew))) HC6.out HK6.out).mono ?_); rintro e w7 ⟨rfl, hb7⟩; (have HX7 : Aside0 (Below W0.heap.size W0 w7) := ⟨below_step (by with_reducible repeat (first | exact HX9.out | exact HX8.out | exact HX7.out | exact HX6.out | exact HX5.out | exact HX4.out | exact HX3.out | exact HX2.out | exact HX1.out | exact Below.refl _ _ | apply below_alloc | apply below_drew)) hb7⟩); clear hb7))
    rename_i hHeld
    clear hHeld
    go_wp2
    go_meet
    case rel => exact ⟨rfl, HX7⟩
  case rest =>
    obtain ⟨rfl, HX8⟩ := hcut
    have n0 := pw_cell_below HX8.out AA.out.1
    have n1 := pw_cell_below HX8.out AA.out.2.1
    have n2 := pw_cell_below HX8.out AA.out.2.2.1
    have n3 := pw_cell_below HX8.out AA.out.2.2.2.1
    have n4 := pw_cell_below HX8.out AA.out.2.2.2.2.1
    have n5 := pw_cell_below HX8.out AA.out.2.2.2.2.2
    cases hat : LTerm.atS p a with
    | none =>
      have h1 := LTerm.at_ev p HP.out a
      rw [hat] at h1
      simp only [LTerm.tupS] at h1
      obtain ⟨k7, hk7⟩ := Ev.rounds h1
      have HK7 := Aside0.mk hk7
      clear h1 hk7 hat
      go_wp2_with (first | (go_at_call 20; (with_reducible refine (term_At.calls k7 a.f0 a.f1 a.f2 (fun _ => True) A0 c0 a.f3 a.f4 a.f5 A2 c2 p 0 0 ⟨#[]⟩ [] 0 0 false _ (Kd.V_mk HL0.out (Kd.F_mono (Kd.C_F term_Size.heap (Kd.C_below D0.out (by with_reducible repeat (first | exact HX9.out | exact HX8.out | exact HX7.out | exact HX6.out | exact HX5.out | exact HX4.out | exact HX3.out | exact HX2.out | exact HX1.out | exact Below.refl _ _ | apply below_alloc | apply below_drew)))) (fun _ _ => trivial))) (Kd.C_below D2.out (by with_reducible repeat (first | exact HX9.out | exact HX8.out | exact HX7.out | exact HX6.out | exact HX5.out | exact HX4.out | exact HX3.out | exact HX2.out | exact HX1.out | exact Below.refl _ _ | apply below_alloc | apply below_drew))) HL2.out HK7.out).mono ?_); rintro e w9 ⟨v9, rfl, ⟨A9, c9, rfl, hc9, hF9⟩, hb9⟩; (have HX9 : Aside0 (Below W0.heap.size W0 w9) := ⟨below_step (by with_reducible repeat (first | exact HX9.out | exact HX8.out | exact HX7.out | exact HX6.out | exact HX5.out | exact HX4.out | exact HX3.out | exact HX2.out | exact HX1.out | exact Below.refl _ _ | apply below_alloc | apply below_drew)) hb9⟩); clear hb9 hc9 hF9) | (go_at_call 9; (with_reducible refine (awake_ret _).mono ?_); rintro e w3 ⟨rfl, hb3⟩; (have HX3 : Aside0 (Below W0.heap.size W0 w3) := ⟨below_step (by with_reducible repeat (first | exact HX9.out | exact HX8.out | exact HX7.out | exact HX6.out | exact HX5.out | exact HX4.out | exact HX3.out | exact HX2.out | exact HX1.out | exact Below.refl _ _ | apply below_alloc | apply below_drew)) hb3⟩); clear hb3))
      go_ret
      exact ⟨rfl, below_step HB0.out HX3.out⟩
    | some z =>
      have h1 := LTerm.at_ev p HP.out a
      rw [hat] at h1
      simp only [LTerm.tupS] at h1
      obtain ⟨k7, hk7⟩ := Ev.rounds h1
      have HK7 := Aside0.mk hk7
      have HPUT := Aside0.mk (LTerm.put_self p 70 a z hs70 hat)
      obtain ⟨k8, hk8⟩ := Ev.rounds (LTerm.same_self a)
      have HK8 := Aside0.mk hk8
      clear h1 hk7 hat hk8
      go_wp2_with (first | (go_at_call 20; (with_reducible refine (term_At.calls k7 a.f0 a.f1 a.f2 (fun _ => True) A0 c0 a.f3 a.f4 a.f5 A2 c2 p z.f0 z.f1 z.f2 z.f3 z.f4 z.f5 true _ (Kd.V_mk HL0.out (Kd.F_mono (Kd.C_F term_Size.heap (Kd.C_below D0.out (by with_reducible repeat (first | exact HX9.out | exact HX8.out | exact HX7.out | exact HX6.out | exact HX5.out | exact HX4.out | exact HX3.out | exact HX2.out | exact HX1.out | exact Below.refl _ _ | apply below_alloc | apply below_drew)))) (fun _ _ => trivial))) (Kd.C_below D2.out (by with_reducible repeat (first | exact HX9.out | exact HX8.out | exact HX7.out | exact HX6.out | exact HX5.out | exact HX4.out | exact HX3.out | exact HX2.out | exact HX1.out | exact Below.refl _ _ | apply below_alloc | apply below_drew))) HL2.out HK7.out).mono ?_); rintro e w9 ⟨v9, rfl, ⟨A9, c9, rfl, hc9, hF9⟩, hb9⟩; (have HX9 : Aside0 (Below W0.heap.size W0 w9) := ⟨below_step (by with_reducible repeat (first | exact HX9.out | exact HX8.out | exact HX7.out | exact HX6.out | exact HX5.out | exact HX4.out | exact HX3.out | exact HX2.out | exact HX1.out | exact Below.refl _ _ | apply below_alloc | apply below_drew)) hb9⟩); (have HC9 := Aside0.mk hc9); (have HF9 := Aside0.mk hF9); clear hb9 hc9 hF9; (have n0 : ∀ o, (w9.alloc o).cell? ⟨w.heap.size, 0, none⟩ = _ := fun o => pw_cell_below (below_alloc HX9.out o) AA.out.1); (have n1 : ∀ o, (w9.alloc o).cell? ⟨w.heap.size, 1, none⟩ = _ := fun o => pw_cell_below (below_alloc HX9.out o) AA.out.2.1); (have n2 : ∀ o, (w9.alloc o).cell? ⟨w.heap.size, 2, none⟩ = _ := fun o => pw_cell_below (below_alloc HX9.out o) AA.out.2.2.1); (have n3 : ∀ o, (w9.alloc o).cell? ⟨w.heap.size, 3, none⟩ = _ := fun o => pw_cell_below (below_alloc HX9.out o) AA.out.2.2.2.1); (have n4 : ∀ o, (w9.alloc o).cell? ⟨w.heap.size, 4, none⟩ = _ := fun o => pw_cell_below (below_alloc HX9.out o) AA.out.2.2.2.2.1); (have n5 : ∀ o, (w9.alloc o).cell? ⟨w.heap.size, 5, none⟩ = _ := fun o => pw_cell_below (below_alloc HX9.out o) AA.out.2.2.2.2.2)) | (go_at_call 21; (with_reducible refine (term_Put.calls p (fun _ => True) a z A0 c0 A2 c2 A9 c9 (a, true) _ (Kd.F_mono (Kd.C_F term_Size.heap (Kd.C_below D0.out (by with_reducible repeat (first | exact HX9.out | exact HX8.out | exact HX7.out | exact HX6.out | exact HX5.out | exact HX4.out | exact HX3.out | exact HX2.out | exact HX1.out | exact Below.refl _ _ | apply below_alloc | apply below_drew)))) (fun _ _ => trivial)) HL0.out (Kd.C_below D2.out (by with_reducible repeat (first | exact HX9.out | exact HX8.out | exact HX7.out | exact HX6.out | exact HX5.out | exact HX4.out | exact HX3.out | exact HX2.out | exact HX1.out | exact Below.refl _ _ | apply below_alloc | apply below_drew))) HL2.out (Kd.F_mono (Kd.F_below HF9.out (by with_reducible repeat (first | exact Below.refl _ _ | apply below_alloc | apply below_drew))) (fun _ _ => trivial)) HC9.out HPUT.out).mono ?_); rintro e w2 ⟨A5, c5, rfl, hc5, hF5, hb2⟩; (have HX2 : Aside0 (Below W0.heap.size W0 w2) := ⟨below_step (by with_reducible repeat (first | exact HX9.out | exact HX8.out | exact HX7.out | exact HX6.out | exact HX5.out | exact HX4.out | exact HX3.out | exact HX2.out | exact HX1.out | exact Below.refl _ _ | apply below_alloc | apply below_drew)) hb2⟩); (have HC5 := Aside0.mk hc5); (have HF5 := Aside0.mk hF5); clear hc5 hF5 hb2; (have n0 : ∀ o, (w2.alloc o).cell? ⟨w.heap.size, 0, none⟩ = _ := fun o => pw_cell_below (below_alloc HX2.out o) AA.out.1); (have n1 : ∀ o, (w2.alloc o).cell? ⟨w.heap.size, 1, none⟩ = _ := fun o => pw_cell_below (below_alloc HX2.out o) AA.out.2.1); (have n2 : ∀ o, (w2.alloc o).cell? ⟨w.heap.size, 2, none⟩ = _ := fun o => pw_cell_below (below_alloc HX2.out o) AA.out.2.2.1); (have n3 : ∀ o, (w2.alloc o).cell? ⟨w.heap.size, 3, none⟩ = _ := fun o => pw_cell_below (below_alloc HX2.out o) AA.out.2.2.2.1); (have n4 : ∀ o, (w2.alloc o).cell? ⟨w.heap.size, 4, none⟩ = _ := fun o => pw_cell_below (below_alloc HX2.out o) AA.out.2.2.2.2.1); (have n5 : ∀ o, (w2.alloc o).cell? ⟨w.heap.size, 5, none⟩ = _ := fun o => pw_cell_below (below_alloc HX2.out o) AA.out.2.2.2.2.2)) | (go_at_call 26; (with_reducible refine (term_Same.calls k8 a.f0 a.f1 a.f2 A0 c0 a.f3 a.f4 a.f5 a.f0 a.f1 a.f2 A5 c5 a.f3 a.f4 a.f5 true _ (Kd.C_below D0.out (by with_reducible repeat (first | exact HX9.out | exact HX8.out | exact HX7.out | exact HX6.out | exact HX5.out | exact HX4.out | exact HX3.out | exact HX2.out | exact HX1.out | exact Below.refl _ _ | apply below_alloc | apply below_drew))) HL0.out (Kd.C_below (Kd.F_now HF5.out) (by with_reducible repeat (first | exact Below.refl _ _ | apply below_alloc | apply below_drew))) HC5.out HK8.out).mono ?_); rintro e w4 ⟨rfl, hb4⟩; (have HX4 : Aside0 (Below W0.heap.size W0 w4) := ⟨below_step (by with_reducible repeat (first | exact HX9.out | exact HX8.out | exact HX7.out | exact HX6.out | exact HX5.out | exact HX4.out | exact HX3.out | exact HX2.out | exact HX1.out | exact Below.refl _ _ | apply below_alloc | apply below_drew)) hb4⟩); clear hb4) | (go_at_call 9; (with_reducible refine (awake_ret _).mono ?_); rintro e w3 ⟨rfl, hb3⟩; (have HX3 : Aside0 (Below W0.heap.size W0 w3) := ⟨below_step (by with_reducible repeat (first | exact HX9.out | exact HX8.out | exact HX7.out | exact HX6.out | exact HX5.out | exact HX4.out | exact HX3.out | exact HX2.out | exact HX1.out | exact Below.refl _ _ | apply below_alloc | apply below_drew)) hb3⟩); clear hb3))
      go_ret
      exact ⟨rfl, below_step HB0.out HX3.out⟩
theorem TermSames (w : World) (cs0 : Array Value) (x0 : T) (hK0 : k24.K w x0 cs0.toList) (hw0 : Ok x0) (cs1 : Array Value) (x1 : T) (hK1 : k24.K w x1 cs1.toList) (hw1 : Ok x1)
    (A2 : Option Addr) (c2 : Nat) (l2 : List Int) (hc2 : l2.length ≤ c2) (hC2 : Kd.C (Kd.int .i64) w A2 l2.length l2) (hw2 : l2.length ≤ maxLen ∧ ∀ x ∈ l2, (Lit.int .i64 x).wf = true) :
    Calls Try.prog 5 #[.agg cs0, .agg cs1, .slice A2 l2.length c2] w fun e w' => e = .returned (.bool true) ∧ Below w.heap.size w w' := by
  obtain ⟨A0, c0, e0, hc0, hC0⟩ := k24_open hK0
  obtain ⟨A1, c1, e1, hc1, hC1⟩ := k24_open hK1
  obtain rfl : cs0 = #[.int .i64 x0.f0, .int .i64 x0.f1, .string x0.f2, .slice A0 x0.f3.length c0, .int .i64 x0.f4, .int .i64 x0.f5] := by rw [← e0]
  obtain rfl : cs1 = #[.int .i64 x1.f0, .int .i64 x1.f1, .string x1.f2, .slice A1 x1.f3.length c1, .int .i64 x1.f4, .int .i64 x1.f5] := by rw [← e1]
  exact sames w x0 x1 A0 A1 c0 c1 hc0 hC0 hw0.fine hc1 hC1 hw1.fine A2 c2 l2 hc2 hC2
end Go.Proofs.Ytppeaofdohghgaa.Walk
