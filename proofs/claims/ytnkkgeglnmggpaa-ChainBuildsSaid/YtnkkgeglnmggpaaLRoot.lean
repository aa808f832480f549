/- What the functions of the package root, and those of its reference, answer: roots, great numbers, primes. -/
import Derived.Test.YtnkkgeglnmggpaaSRoot
import Derived.Test.YtnkkgeglnmggpaaPCbx1
import Derived.Test.YtnkkgeglnmggpaaPCbx8
import Derived.Test.YtnkkgeglnmggpaaPCbx9
namespace Go.Proofs.Ytnkkgeglnmggpaa.LRoot
open Go.RowKit Go.Proofs.Ytnkkgeglnmggpaa.SRoot Go.Proofs.Ytnkkgeglnmggpaa.PCb Go.Proofs.YtnkkgeglnmggpaaW.PrintWords Go.Proofs.YtnkkgeglnmggpaaW.PrintLast Go.Proofs.YtnkkgeglnmggpaaW.PrintMore
set_option linter.unusedVariables false
set_option linter.unusedSimpArgs false

theorem u64w (n : Int) : IntKind.u64.wrap n = n % 18446744073709551616 := by simp [IntKind.wrap, IntKind.bits, IntKind.signed]
theorem w64 (n : Int) (h0 : -9223372036854775808 ≤ n) (h1 : n < 9223372036854775808) : wrap64 n = n := by unfold wrap64; omega
theorem and32_u64 (x : Int) (h0 : 0 ≤ x) (h1 : x < 18446744073709551616) : bits .and .u64 x 4294967295 = x % 4294967296 := by
  rw [u64_and x _ h0 h1 (by decide) (by decide)]
  obtain ⟨a, rfl⟩ := Int.eq_ofNat_of_zero_le h0
  have := Nat.and_two_pow_sub_one_eq_mod a 32
  simp only [Int.toNat_natCast, Int.reduceToNat]
  rw [show (4294967295 : Nat) = 2 ^ 32 - 1 by decide, this]; omega
theorem mul_le (a b m n : Int) (ha : 0 ≤ a) (hb : 0 ≤ b) (hm : a ≤ m) (hn : b ≤ n) : 0 ≤ a * b ∧ a * b ≤ m * n :=
  ⟨Int.mul_nonneg ha hb, Int.le_trans (Int.mul_le_mul_of_nonneg_right hm hb) (Int.mul_le_mul_of_nonneg_left hn (by omega))⟩
theorem mul64 (a b : Int) (ha0 : 0 ≤ a) (ha1 : a < 18446744073709551616) (hb0 : 0 ≤ b) (hb1 : b < 18446744073709551616) :
    bits_Mul64.f a b = some (a * b / 18446744073709551616, a * b % 18446744073709551616) := by
  unfold bits_Mul64.f
  rw [and32_u64 a ha0 ha1, and32_u64 b hb0 hb1]
  have hx := mul_le (a / 4294967296) (b / 4294967296) 4294967295 4294967295 (by omega) (by omega) (by omega) (by omega)
  have hy := mul_le (a / 4294967296) (b % 4294967296) 4294967295 4294967295 (by omega) (by omega) (by omega) (by omega)
  have hz := mul_le (a % 4294967296) (b / 4294967296) 4294967295 4294967295 (by omega) (by omega) (by omega) (by omega)
  have hw := mul_le (a % 4294967296) (b % 4294967296) 4294967295 4294967295 (by omega) (by omega) (by omega) (by omega)
  have e : a * b = a / 4294967296 * (b / 4294967296) * 18446744073709551616 + (a / 4294967296 * (b % 4294967296) + a % 4294967296 * (b / 4294967296)) * 4294967296 + a % 4294967296 * (b % 4294967296) := by
    have e1 : a = a / 4294967296 * 4294967296 + a % 4294967296 := by omega
    have e2 : b = b / 4294967296 * 4294967296 + b % 4294967296 := by omega
    generalize a / 4294967296 = p at *
    generalize a % 4294967296 = q at *
    generalize b / 4294967296 = r at *
    generalize b % 4294967296 = s at *
    subst e1 e2
    clear hx hy hz hw ha0 ha1 hb0 hb1
    grind
  rw [e]
  clear e
  generalize a / 4294967296 * (b / 4294967296) = X at *
  generalize a / 4294967296 * (b % 4294967296) = Y at *
  generalize a % 4294967296 * (b / 4294967296) = Z at *
  generalize a % 4294967296 * (b % 4294967296) = U at *
  simp only [u64w]
  rw [Int.emod_eq_of_lt hx.1 (by omega), Int.emod_eq_of_lt hy.1 (by omega), Int.emod_eq_of_lt hz.1 (by omega), Int.emod_eq_of_lt hw.1 (by omega)]
  rw [show (Y + U / 4294967296) % 18446744073709551616 = Y + U / 4294967296 by omega]
  rw [and32_u64 _ (by omega) (by omega)]
  congr 2
  omega

theorem clip_n (p : Int) : ∃ n : Nat, n ≤ 65536 ∧ mn (mx p 0) 65536 = (n : Int) ∧ (n : Int) = (if p < 0 then 0 else if p > 65536 then 65536 else p) := by
  unfold mn mx
  refine ⟨(if p < 0 then 0 else if p > 65536 then 65536 else p).toNat, ?_, ?_, ?_⟩
  all_goals split <;> (try split) <;> (try split) <;> omega
def clip (p : Int) : Nat := (if p < 0 then 0 else if p > 65536 then 65536 else p).toNat
theorem clip_le (p : Int) : clip p ≤ 65536 := by unfold clip; split <;> (try split) <;> omega
theorem clip_mn (p : Int) : mn (mx p 0) 65536 = (clip p : Int) := by unfold mn mx clip; split <;> (try split) <;> (try split) <;> (try split) <;> omega
theorem clip_mono {p q : Int} (h : p ≤ q) : clip p ≤ clip q := by unfold clip; split <;> (try split) <;> (try split) <;> (try split) <;> omega

theorem search_square (g : Int → Bool) (T p : Nat) (hp : p ≤ 60) (hg : ∀ y : Nat, y < 2 ^ p → (g (y : Int) = true ↔ y ≤ T)) :
    ∀ (n x : Nat), n ≤ p → x % 2 ^ n = 0 → x + 2 ^ n ≤ 2 ^ p → x ≤ T → T < x + 2 ^ n → root_Square.l0 g n (x : Int) = (T : Int) := by
  intro n
  induction n with
  | zero => intro x _ _ _ h1 h2; simp only [root_Square.l0]; have : x = T := by omega
            rw [this]
  | succ n ih =>
    intro x hn hx hb h1 h2
    have hp2 : (2 : Nat) ^ p ≤ 2 ^ 60 := Nat.pow_le_pow_right (by decide) hp
    have e2 : (2 : Nat) ^ (n + 1) = 2 * 2 ^ n := by rw [Nat.pow_succ, Nat.mul_comm]
    have hpos : 0 < (2 : Nat) ^ n := Nat.two_pow_pos n
    have hor := or_bit x n hx (by omega) (by omega)
    have hm : x % 2 ^ n = 0 := by
      have : x % (2 ^ n * 2) % 2 ^ n = x % 2 ^ n := Nat.mod_mul_right_mod x (2 ^ n) 2
      rw [← this, Nat.mul_comm, ← e2, hx, Nat.zero_mod]
    simp only [root_Square.l0]
    rw [hor]
    by_cases hc : x + 2 ^ n ≤ T
    · rw [if_pos ((hg _ (by omega)).2 hc)]
      exact ih (x + 2 ^ n) (by omega) (by rw [Nat.add_mod_right]; exact hm) (by omega) hc (by omega)
    · rw [if_neg (fun h => hc ((hg _ (by omega)).1 h))]
      exact ih x (by omega) hm (by omega) h1 (by omega)
theorem search_cube (g : Int → Bool) : ∀ (n : Nat) (x : Int), root_Cube.l0 g n x = root_Square.l0 g n x
  | 0, x => rfl
  | n + 1, x => by simp only [root_Cube.l0, root_Square.l0]; exact search_cube g n _

theorem below_iff (q n : Int) (b : Bool) (h : root_below.f (q / 18446744073709551616) (q % 18446744073709551616) n 0 = some b) : (b = true ↔ q ≤ n * 18446744073709551616) := by
  unfold root_below.f at h
  split at h
  · obtain rfl := Option.some.inj h; simp only [decide_eq_true_eq]; omega
  · obtain rfl := Option.some.inj h; simp only [decide_eq_true_eq]; omega
theorem nat_sq (y : Nat) : ((y ^ 2 : Nat) : Int) = (y : Int) * y := by rw [Nat.pow_succ, Nat.pow_one]; simp
theorem nat_cu (y : Nat) : ((y ^ 3 : Nat) : Int) = (y : Int) * y * y := by rw [Nat.pow_succ, Nat.pow_succ, Nat.pow_one]; simp
theorem sq_lt (y b : Nat) (h : y < b) : y ^ 2 < b ^ 2 := Nat.pow_lt_pow_left h (by decide)

theorem square_is (p : Int) : ∃ T : Nat, root_Square.f p = some (T : Int) ∧ IsRoot 2 (clip p * 2 ^ 64) T ∧ T ≤ 2 ^ 40 := by
  obtain ⟨T, hT⟩ := ex_root 2 (by decide) (clip p * 2 ^ 64)
  have hc := clip_le p
  have hT40 : T ≤ 2 ^ 40 := by
    have : T < 2 ^ 40 + 1 := hT.lt_of (by omega)
    omega
  refine ⟨T, ?_, hT, hT40⟩
  unfold root_Square.f
  congr 1
  refine search_square _ T 42 (by decide) ?_ 42 0 (Nat.le_refl _) (by decide) (by decide) (by omega) (by omega)
  intro y hy
  have hsq := sq_lt y (2 ^ 42) hy
  have hsq2 := nat_sq y
  obtain ⟨b, hb⟩ : ∃ b, root_Square1.f (root_Square.n p) (y : Int) = some b := ⟨_, root_Square1.some _ _⟩
  rw [hb, Option.getD_some]
  unfold root_Square1.f at hb
  rw [mul64 y y (by omega) (by omega) (by omega) (by omega)] at hb
  rw [below_iff _ _ b hb, ← hT.le_iff y]
  unfold root_Square.n
  rw [clip_mn]
  omega
theorem cube_is (p : Int) : ∃ T : Nat, root_Cube.f p = some (T : Int) ∧ IsRoot 3 (clip p * 2 ^ 96) T ∧ T < 2 ^ 38 := by
  obtain ⟨T, hT⟩ := ex_root 3 (by decide) (clip p * 2 ^ 96)
  have hc := clip_le p
  have hT38 : T < 2 ^ 38 := hT.lt_of (by omega)
  refine ⟨T, ?_, hT, hT38⟩
  unfold root_Cube.f
  congr 1
  rw [search_cube]
  refine search_square _ T 38 (by decide) ?_ 38 0 (Nat.le_refl _) (by decide) (by decide) (by omega) (by omega)
  intro y hy
  have hsq := sq_lt y (2 ^ 38) hy
  have hsq2 := nat_sq y
  have hcu := nat_cu y
  obtain ⟨b, hb⟩ : ∃ b, root_Cube1.f (root_Cube.n p) (y : Int) = some b := ⟨_, root_Cube1.some _ _⟩
  rw [hb, Option.getD_some]
  unfold root_Cube1.f at hb
  rw [mul64 y y (by omega) (by omega) (by omega) (by omega)] at hb
  simp only [Option.bind_some] at hb
  rw [mul64 _ y (by omega) (by omega) (by omega) (by omega)] at hb
  simp only [Option.bind_some] at hb
  have hq0 : 0 ≤ (y : Int) * y := by omega
  have hh := mul_le ((y : Int) * y / 18446744073709551616) y 4096 274877906944 (by omega) (by omega) (by omega) (by omega)
  have hl := mul_le ((y : Int) * y % 18446744073709551616) y 18446744073709551616 274877906944 (by omega) (by omega) (by omega) (by omega)
  have e : (y : Int) * y * y = (y : Int) * y / 18446744073709551616 * y * 18446744073709551616 + (y : Int) * y % 18446744073709551616 * y := by
    have e1 : (y : Int) * y = (y : Int) * y / 18446744073709551616 * 18446744073709551616 + (y : Int) * y % 18446744073709551616 := by omega
    generalize (y : Int) * y / 18446744073709551616 = h at *
    generalize (y : Int) * y % 18446744073709551616 = l at *
    rw [e1, Int.add_mul, Int.mul_assoc, Int.mul_comm 18446744073709551616 (y : Int), ← Int.mul_assoc]
  have ex : IntKind.u64.wrap ((y : Int) * y % 18446744073709551616 * y / 18446744073709551616 + IntKind.u64.wrap ((y : Int) * y / 18446744073709551616 * y)) = (y : Int) * y * y / 18446744073709551616 := by
    rw [u64w, u64w, e]
    generalize (y : Int) * y / 18446744073709551616 * y = H at *
    generalize (y : Int) * y % 18446744073709551616 * y = L at *
    omega
  have el : (y : Int) * y % 18446744073709551616 * y % 18446744073709551616 = (y : Int) * y * y % 18446744073709551616 := by
    rw [e]
    generalize (y : Int) * y / 18446744073709551616 * y = H at *
    generalize (y : Int) * y % 18446744073709551616 * y = L at *
    omega
  rw [ex, el] at hb
  rw [below_iff _ _ b hb, ← hT.le_iff y]
  unfold root_Cube.n
  rw [clip_mn, u64w]
  clear hb ex el e hh hl
  generalize (y : Int) * y * y = c at *
  omega
end Go.Proofs.Ytnkkgeglnmggpaa.LRoot
