/- What the reference's root answers, and the first primes. -/
import Derived.Test.YtnkkgeglnmggpaaLRoot2
namespace Go.Proofs.Ytnkkgeglnmggpaa.LRoot
open Go.RowKit Go.Proofs.Ytnkkgeglnmggpaa.SRoot Go.Proofs.Ytnkkgeglnmggpaa.PCb Go.Proofs.YtnkkgeglnmggpaaW.PrintWords Go.Proofs.YtnkkgeglnmggpaaW.PrintLast Go.Proofs.YtnkkgeglnmggpaaW.PrintMore
set_option linter.unusedVariables false
set_option linter.unusedSimpArgs false

/-- the unit of round n: 2^(n-1), 0 behind the last -/
def unit (n : Nat) : Nat := 2 ^ n / 2
theorem unit_succ (n : Nat) : unit (n + 1) = 2 ^ n := by unfold unit; rw [Nat.pow_succ]; omega
theorem unit_half (n : Nat) : unit (n + 1) / 2 = unit n := by rw [unit_succ]; rfl
theorem root_l0 (m N T : Nat) (hm : m ≤ 4) (hT : IsRoot m N T) (l : List Int) (hl : l.length = 20) (hd : Dig l) (hv : val l = (N : Int)) : ∀ (n x : Nat), n ≤ 42 → x + 2 ^ n ≤ 2 ^ 42 → x ≤ T → T < x + 2 ^ n →
    Ev (fun k => notaryref02_Root.l0 k (m : Int) l (x : Int) (unit n : Int)) (T : Int) := by
  intro n
  induction n with
  | zero =>
    intro x hn hb h1 h2
    obtain rfl : x = T := by omega
    refine Ev.step (f := fun _ => some (x : Int)) (fun k => ?_) (Ev.now _)
    simp only [notaryref02_Root.l0]
    rw [if_neg (by simp [unit])]
  | succ n ih =>
    intro x hn hb h1 h2
    have e2 : (2 : Nat) ^ (n + 1) = 2 * 2 ^ n := by rw [Nat.pow_succ, Nat.mul_comm]
    have hpos : 0 < (2 : Nat) ^ n := Nat.two_pow_pos n
    have hu := unit_succ n
    have huh := unit_half n
    have ew : IntKind.u64.wrap ((x : Int) + (unit (n + 1) : Nat)) = ((x + 2 ^ n : Nat) : Int) := by rw [hu, u64w]; omega
    have ed : IntKind.u64.wrap (Int.tdiv (unit (n + 1) : Nat) 2) = ((unit n : Nat) : Int) := by
      rw [Int.tdiv_eq_ediv_of_nonneg (by omega), u64w]; omega
    obtain ⟨b, hpb, hbd, hbl, hbv⟩ := power_ev (x + 2 ^ n) (by omega) m hm
    have hmo := most_ev b l hbd hd hbl hl
    rw [hbv, hv] at hmo
    by_cases hc : x + 2 ^ n ≤ T
    · have hdec : decide (((((x + 2 ^ n) ^ m : Nat)) : Int) ≤ (N : Int)) = true := decide_eq_true (by have := (hT.le_iff (x + 2 ^ n)).2 hc; omega)
      rw [hdec] at hmo
      refine Ev.step (f := fun k => (notaryref02_Power.f k ((x + 2 ^ n : Nat) : Int) (m : Int)).bind fun t => ((notaryref02_Most.f k t l).bind fun t2 => (if t2 = true then (notaryref02_Root.l0 k (m : Int) l ((x + 2 ^ n : Nat) : Int) (unit n : Int)) else (notaryref02_Root.l0 k (m : Int) l x (unit n : Int))))) (fun k => ?_) (Ev.bind hpb (Ev.bind hmo ?_))
      · simp only [notaryref02_Root.l0]
        rw [if_pos (by omega), ew, ed]
      · simp only [if_true]
        exact ih (x + 2 ^ n) (by omega) (by omega) hc (by omega)
    · have hdec : decide (((((x + 2 ^ n) ^ m : Nat)) : Int) ≤ (N : Int)) = false := decide_eq_false (fun h => hc ((hT.le_iff (x + 2 ^ n)).1 (by omega)))
      rw [hdec] at hmo
      refine Ev.step (f := fun k => (notaryref02_Power.f k ((x + 2 ^ n : Nat) : Int) (m : Int)).bind fun t => ((notaryref02_Most.f k t l).bind fun t2 => (if t2 = true then (notaryref02_Root.l0 k (m : Int) l ((x + 2 ^ n : Nat) : Int) (unit n : Int)) else (notaryref02_Root.l0 k (m : Int) l x (unit n : Int))))) (fun k => ?_) (Ev.bind hpb (Ev.bind hmo ?_))
      · simp only [notaryref02_Root.l0]
        rw [if_pos (by omega), ew, ed]
      · simp only [Bool.false_eq_true, if_false]
        exact ih x (by omega) (by omega) h1 (by omega)
theorem root3_ev (p : Int) (h0 : -9223372036854775808 ≤ p) (T : Nat) (hT : IsRoot 3 (clip p * 2 ^ 96) T) : Ev (fun k => notaryref02_Root.f k p 3) (T : Int) := by
  have hc := clip_le p
  have hT38 : T < 2 ^ 38 := hT.lt_of (by omega)
  obtain ⟨l, hl, hld, hll, hlv⟩ := shifted (clip p) 6 hc (by decide)
  refine Ev.congr (f := fun k => notaryref02_Root.j0 k 3 l 0 274877906944) (fun k => ?_) ?_
  · unfold notaryref02_Root.f
    rw [rclip p h0]
    simp only [Option.bind_some]
    rw [show wrap64 (2 * 3) = ((6 : Nat) : Int) by unfold wrap64; omega, hl]
    simp
  · refine Ev.step (f := fun k => notaryref02_Root.l0 k 3 l 0 274877906944) (fun k => by simp [notaryref02_Root.j0]) ?_
    exact root_l0 3 (clip p * 2 ^ 96) T (by decide) hT l hll hld (by rw [hlv]) 39 0 (by decide) (by decide) (by omega) (by omega)
theorem root2_ev (p : Int) (h0 : -9223372036854775808 ≤ p) (T : Nat) (hT : IsRoot 2 (clip p * 2 ^ 64) T) : Ev (fun k => notaryref02_Root.f k p 2) (T : Int) := by
  have hc := clip_le p
  have hT38 : T < 2 ^ 41 := hT.lt_of (by omega)
  obtain ⟨l, hl, hld, hll, hlv⟩ := shifted (clip p) 4 hc (by decide)
  refine Ev.congr (f := fun k => notaryref02_Root.j0 k 2 l 0 2199023255552) (fun k => ?_) ?_
  · unfold notaryref02_Root.f
    rw [rclip p h0]
    simp only [Option.bind_some]
    rw [show wrap64 (2 * 2) = ((4 : Nat) : Int) by unfold wrap64; omega, hl]
    simp
  · refine Ev.step (f := fun k => notaryref02_Root.l0 k 2 l 0 2199023255552) (fun k => by simp [notaryref02_Root.j0]) ?_
    exact root_l0 2 (clip p * 2 ^ 64) T (by decide) hT l hll hld (by rw [hlv]) 42 0 (by decide) (by decide) (by omega) (by omega)

/-! ### primes -/
/-- how many are asked for -/
def many (n : Int) : Nat := (if n < 0 then 0 else if n > 100 then 100 else n).toNat
theorem many_le (n : Int) : many n ≤ 100 := by unfold many; split <;> (try split) <;> omega
theorem many_mn (n : Int) : mn (mx n 0) 100 = (many n : Int) := by unfold mn mx many; split <;> (try split) <;> (try split) <;> (try split) <;> omega
theorem primes_all : ∀ n : Fin 101, root_Primes.l0 1000 (n.val : Int) [] 2 = some (primes.take n.val) := by decide +kernel
theorem primes_is (n : Int) : root_Primes.f n = some (primes.take (many n)) := by
  unfold root_Primes.f
  rw [many_mn]
  exact primes_all ⟨many n, by have := many_le n; omega⟩
theorem rprimes_all : ∀ n : Fin 101, notaryref02_Primes.l0 2000 (n.val : Int) [] 2 = some (primes.take n.val) := by decide +kernel
theorem rprimes_big (n : Int) (hn : 100 ≤ n) : ∀ k, (∀ (out : List Int) (x : Int), notaryref02_Primes.l0 k n out x = notaryref02_Primes.l0 k 100 out x) ∧ (∀ (out : List Int) (x : Int) (b : Bool), notaryref02_Primes.j1 k n out x b = notaryref02_Primes.j1 k 100 out x b) := by
  intro k
  induction k with
  | zero => exact ⟨fun _ _ => by simp only [notaryref02_Primes.l0], fun _ _ _ => by simp only [notaryref02_Primes.j1]⟩
  | succ k ih =>
    constructor
    · intro out x
      simp only [notaryref02_Primes.l0, ih.2]
      by_cases h6 : x < 600
      · rw [if_pos h6, if_pos h6]
        by_cases hl : (out.length : Int) < 100
        · rw [if_pos (by omega), if_pos hl]
        · rw [if_neg hl, decide_eq_false hl]
          split <;> rfl
      · rw [if_neg h6, if_neg h6]
    · intro out x b
      simp only [notaryref02_Primes.j1, ih.1]
theorem rprimes_ev (n : Int) : Ev (fun k => notaryref02_Primes.f k n) (primes.take (many n)) := by
  refine Ev.of (k := 2000) (fun k => notaryref02_Primes.mono n k) ?_
  unfold notaryref02_Primes.f
  have hm := many_le n
  have ha := rprimes_all ⟨many n, by omega⟩
  simp only at ha
  by_cases h0 : n < 0
  · have e : many n = 0 := by unfold many; rw [if_pos h0]; rfl
    rw [e] at ha ⊢
    rw [← ha]
    have hl : ¬ (([] : List Int).length : Int) < n := by simp; omega
    have hl0 : ¬ (([] : List Int).length : Int) < ((0 : Nat) : Int) := by simp
    rw [show (2000 : Nat) = 1998 + 1 + 1 by decide]
    simp only [notaryref02_Primes.l0]
    rw [if_pos (by decide), if_neg hl, if_pos (by decide), if_neg hl0]
    simp only [notaryref02_Primes.j1, Bool.false_eq_true, if_false]
  · by_cases h1 : 100 ≤ n
    · have e : many n = 100 := by unfold many; rw [if_neg h0]; split <;> omega
      rw [e] at ha ⊢
      rw [(rprimes_big n h1 2000).1]
      exact ha
    · have e : ((many n : Nat) : Int) = n := by unfold many; rw [if_neg h0, if_neg (by omega)]; omega
      rw [e] at ha
      exact ha
end Go.Proofs.Ytnkkgeglnmggpaa.LRoot
