/- The laws RootSquares, RootCubes and RootPrimes, over numbers and lists alone. -/
import Derived.Test.YtglfaamglpphmaaLRoot3
import Derived.Test.YtglfaamglpphmaaPAllx4
import Derived.Test.YtglfaamglpphmaaPAllx5
import Derived.Test.YtglfaamglpphmaaPAllx6
namespace Go.Proofs.Ytglfaamglpphmaa.Pure
open Go.RowKit Go.Proofs.Ytglfaamglpphmaa.SRoot Go.Proofs.Ytglfaamglpphmaa.LRoot Go.Proofs.Ytglfaamglpphmaa.PAll Go.Proofs.YtglfaamglpphmaaW.PrintWords Go.Proofs.YtglfaamglpphmaaW.PrintLast Go.Proofs.YtglfaamglpphmaaW.PrintMore
set_option linter.unusedVariables false
set_option linter.unusedSimpArgs false

theorem wf_i64' (a : Int) (h : (Lit.int .i64 a).wf = true) : -9223372036854775808 ≤ a ∧ a < 9223372036854775808 := by
  simp [Lit.wf, IntKind.min, IntKind.max, IntKind.signed, IntKind.bits] at h
  omega
theorem square_4 : root_Square.f 4 = some 8589934592 := by
  obtain ⟨T, h, hT, _⟩ := square_is 4
  have : IsRoot 2 (clip 4 * 2 ^ 64) 8589934592 := by unfold IsRoot; decide
  rw [h, hT.unique this]; rfl
theorem cube_8 : root_Cube.f 8 = some 8589934592 := by
  obtain ⟨T, h, hT, _⟩ := cube_is 8
  have : IsRoot 3 (clip 8 * 2 ^ 96) 8589934592 := by unfold IsRoot; decide
  rw [h, hT.unique this]; rfl
theorem RootSquares : notarylaw02_RootSquares.Pure := by
  intro p hp
  obtain ⟨h0, h1⟩ := wf_i64' p hp
  refine Ev.rounds (g := fun k => notarylaw02_RootSquares.f k p) ?_
  obtain ⟨T, hs, hT, hT40⟩ := square_is p
  have hc := clip_le p
  obtain ⟨l, hl, hld, hll, hlv⟩ := shifted (clip p) 4 hc (by decide)
  have hl' : notaryref02_Shifted.f (clip p : Int) 4 = some l := hl
  obtain ⟨b, hb, hbd, hbl, hbv⟩ := power_ev T (by omega) 2 (by decide)
  obtain ⟨c, hc', hcd, hcl, hcv⟩ := power_ev (T + 1) (by omega) 2 (by decide)
  have m1 := most_ev b l hbd hld hbl hll
  have m2 := most_ev c l hcd hld hcl hll
  rw [hbv, hlv, decide_eq_true (by have := hT.1; omega)] at m1
  rw [hcv, hlv, decide_eq_false (by have := hT.2; omega)] at m2
  have ew : IntKind.u64.wrap ((T : Int) + 1) = ((T + 1 : Nat) : Int) := by rw [LRoot.u64w]; omega
  unfold notarylaw02_RootSquares.f
  rw [hs, rclip p h0, square_4]
  simp only [Option.bind_some]
  rw [hl', ew]
  simp only [Option.bind_some]
  refine Ev.congr (f := fun k => (notaryref02_Power.f k (T : Int) 2).bind fun t196 => ((notaryref02_Most.f k t196 l).bind fun t199 => (if t199 = true then ((notaryref02_Power.f k ((T + 1 : Nat) : Int) 2).bind fun t200 => ((notaryref02_Most.f k t200 l).bind fun t203 => (if t203 = true then (some false) else (some ((8589934592 : Int) == 8589934592))))) else (some false)))) (fun k => by rw [if_neg (by omega)]) ?_
  refine Ev.bind hb (Ev.bind m1 ?_)
  simp only [if_true]
  refine Ev.bind hc' (Ev.bind m2 ?_)
  simp only [Bool.false_eq_true, if_false]
  exact Ev.now _
theorem RootCubes : notarylaw02_RootCubes.Pure := by
  intro p hp
  obtain ⟨h0, h1⟩ := wf_i64' p hp
  refine Ev.rounds (g := fun k => notarylaw02_RootCubes.f k p) ?_
  obtain ⟨T, hs, hT, hT38⟩ := cube_is p
  have hc := clip_le p
  obtain ⟨l, hl, hld, hll, hlv⟩ := shifted (clip p) 6 hc (by decide)
  have hl' : notaryref02_Shifted.f (clip p : Int) 6 = some l := hl
  obtain ⟨b, hb, hbd, hbl, hbv⟩ := power_ev T (by omega) 3 (by decide)
  obtain ⟨c, hc', hcd, hcl, hcv⟩ := power_ev (T + 1) (by omega) 3 (by decide)
  have m1 := most_ev b l hbd hld hbl hll
  have m2 := most_ev c l hcd hld hcl hll
  rw [hbv, hlv, decide_eq_true (by have := hT.1; omega)] at m1
  rw [hcv, hlv, decide_eq_false (by have := hT.2; omega)] at m2
  have ew : IntKind.u64.wrap ((T : Int) + 1) = ((T + 1 : Nat) : Int) := by rw [LRoot.u64w]; omega
  have hr := root3_ev p h0 T hT
  unfold notarylaw02_RootCubes.f
  rw [hs, rclip p h0, cube_8]
  simp only [Option.bind_some]
  rw [hl', ew]
  simp only [Option.bind_some]
  refine Ev.congr (f := fun k => (notaryref02_Power.f k (T : Int) 3).bind fun t218 => ((notaryref02_Most.f k t218 l).bind fun t221 => (if t221 = true then ((notaryref02_Power.f k ((T + 1 : Nat) : Int) 3).bind fun t222 => ((notaryref02_Most.f k t222 l).bind fun t225 => (if t225 = true then (some false) else ((notaryref02_Root.f k p 3).bind fun t226 => (if (T : Int) = t226 then (some ((8589934592 : Int) == 8589934592)) else (some false)))))) else (some false)))) (fun k => by rw [if_neg (by omega)]) ?_
  refine Ev.bind hb (Ev.bind m1 ?_)
  simp only [if_true]
  refine Ev.bind hc' (Ev.bind m2 ?_)
  simp only [Bool.false_eq_true, if_false]
  refine Ev.bind hr ?_
  simp only [if_true]
  exact Ev.now _
theorem eq_l0 (l : List Int) (hl : l.length ≤ 100) : ∀ (n i : Nat), n + i = l.length → Ev (fun k => notarylaw02_RootPrimes.l0 k l l (i : Int)) true := by
  intro n
  induction n with
  | zero =>
    intro i hi
    refine Ev.step (f := fun _ => some true) (fun k => ?_) (Ev.now _)
    simp only [notarylaw02_RootPrimes.l0]
    rw [if_neg (by omega), primes_is 3]
    rfl
  | succ n ih =>
    intro i hi
    refine Ev.step (fun k => ?_) (ih (i + 1) (by omega))
    simp only [notarylaw02_RootPrimes.l0]
    rw [if_pos (by omega), if_pos (by omega), if_pos (by omega), if_pos trivial, LRoot.w64 _ (by omega) (by omega)]
    rfl
theorem RootPrimes : notarylaw02_RootPrimes.Pure := by
  intro n p q hn hp hq
  refine Ev.rounds (g := fun k => notarylaw02_RootPrimes.f k n p q) ?_
  obtain ⟨T, hs, hT, _⟩ := square_is p
  obtain ⟨T', hs', hT', _⟩ := square_is q
  obtain ⟨U, hu, hU, _⟩ := cube_is p
  obtain ⟨U', hu', hU', _⟩ := cube_is q
  unfold notarylaw02_RootPrimes.f
  rw [primes_is n, hs, hs', hu, hu']
  simp only [Option.bind_some]
  refine Ev.bind (rprimes_ev n) ?_
  have hlen : (primes.take (many n)).length ≤ 100 := by
    rw [List.length_take]; have := many_le n; omega
  refine Ev.congr (f := fun k => notarylaw02_RootPrimes.j0 k (primes.take (many n)) (primes.take (many n)) false) (fun k => ?_) (Ev.step (fun k => ?_) (eq_l0 _ hlen _ 0 rfl))
  · rw [if_pos rfl]
    by_cases h : p ≤ q
    · have hcm := clip_mono h
      have h1 := hT.mono hT' (by omega)
      have h2 := hU.mono hU' (by omega)
      rw [if_pos h, if_neg (by omega), decide_eq_false (by omega)]
    · rw [if_neg h]
  · simp [notarylaw02_RootPrimes.j0]
end Go.Proofs.Ytglfaamglpphmaa.Pure
