/- What the functions of the package root, and those of its reference, answer: roots, great numbers, primes. -/
import Derived.Test.YtogjnipojakfjaaSRoot
import Derived.Test.YtogjnipojakfjaaPJdx1
import Derived.Test.YtogjnipojakfjaaPJdx4
import Derived.Test.YtogjnipojakfjaaPJdx5
/- What the functions of the package root, and those of its reference, answer: roots, great numbers, primes. -/
namespace Go.Proofs.Ytogjnipojakfjaa.LRoot
open Go.RowKit Go.Proofs.Ytogjnipojakfjaa.SRoot Go.Proofs.Ytogjnipojakfjaa.PJd Go.Proofs.YtogjnipojakfjaaW.PrintWords Go.Proofs.YtogjnipojakfjaaW.PrintLast Go.Proofs.YtogjnipojakfjaaW.PrintMore
set_option linter.unusedVariables false
set_option linter.unusedSimpArgs false

theorem u64w (n : Int) : IntKind.u64.wrap n = n % 18446744073709551616 := by simp [IntKind.wrap, IntKind.bits, IntKind.signed]
theorem w64 (n : Int) (h0 : -9223372036854775808 ≤ n) (h1 : n < 9223372036854775808) : wrap64 n = n := by unfold wrap64; omega
theorem and32_u64 (x : Int) (h0 : 0 ≤ x) (h1 : x < 18446744073709551616) : bits .and .u64 x 4294967295 = x % 4294967296 := by
  rw [u64_and x _ h0 h1 (by decide) (by decide)]
  obtain ⟨a, rfl⟩ := Int.eq_ofNat_of_zero_le h0
  have := Nat.and_two_pow_sub_one_eq_mod a 32
  simp only [Int.toNat_natCast, Int.reduceToNat]
  rw [show (4294967295 : Nat) = 2 ^ 32 - 1 by decide, this]; omega
theorem mul_le (a b m n : Int) (ha : 0 ≤ a) (hb : 0 ≤ b) (hm : a ≤ m) (hn : b ≤ n) : 0 ≤ a * b ∧ a * b ≤ m * n :=
  ⟨Int.mul_nonneg ha hb, Int.le_trans (Int.mul_le_mul_of_nonneg_right hm hb) (Int.mul_le_mul_of_nonneg_left hn (by omega))⟩
theorem mul64 (a b : Int) (ha0 : 0 ≤ a) (ha1 : a < 18446744073709551616) (hb0 : 0 ≤ b) (hb1 : b < 18446744073709551616) :
    bits_Mul64.f a b = some (a * b / 18446744073709551616, a * b % 18446744073709551616) := by
  unfold bits_Mul64.f
  rw [and32_u64 a ha0 ha1, and32_u64 b hb0 hb1]
  have hx := mul_le (a / 4294967296) (b / 4294967296) 4294967295 4294967295 (by omega) (by omega) (by omega) (by omega)
  have hy := mul_le (a / 4294967296) (b % 4294967296) 4294967295 4294967295 (by omega) (by omega) (by omega) (by omega)
  have hz := mul_le (a % 4294967296) (b / 4294967296) 4294967295 4294967295 (by omega) (by omega) (by omega) (by omega)
  have hw := mul_le (a % 4294967296) (b % 4294967296) 4294967295 4294967295 (by omega) (by omega) (by omega) (by omega)
  have e : a * b = a / 4294967296 * (b / 4294967296) * 18446744073709551616 + (a / 4294967296 * (b % 4294967296) + a % 4294967296 * (b / 4294967296)) * 4294967296 + a % 4294967296 * (b % 4294967296) := by
    have e1 : a = a / 4294967296 * 4294967296 + a % 4294967296 := by omega
    have e2 : b = b / 4294967296 * 4294967296 + b % 4294967296 := by omega
    generalize a / 4294967296 = p at *
    generalize a % 4294967296 = q at *
    generalize b / 4294967296 = r at *
    generalize b % 4294967296 = s at *
    subst e1 e2
    clear hx hy hz hw ha0 ha1 hb0 hb1
    grind
  rw [e]
  clear e
  generalize a / 4294967296 * (b / 4294967296) = X at *
  generalize a / 4294967296 * (b % 4294967296) = Y at *
  generalize a % 4294967296 * (b / 4294967296) = Z at *
  generalize a % 4294967296 * (b % 4294967296) = U at *
  simp only [u64w]
  rw [Int.emod_eq_of_lt hx.1 (by omega), Int.emod_eq_of_lt hy.1 (by omega), Int.emod_eq_of_lt hz.1 (by omega), Int.emod_eq_of_lt hw.1 (by omega)]
  rw [show (Y + U / 4294967296) % 18446744073709551616 = Y + U / 4294967296 by omega]
  rw [and32_u64 _ (by omega) (by omega)]
  congr 2
  omega

def clip (p : Int) : Nat := (if p < 0 then 0 else if p > 65536 then 65536 else p).toNat
theorem clip_le (p : Int) : clip p ≤ 65536 := by unfold clip; split <;> (try split) <;> omega
theorem clip_mn (p : Int) : mn (mx p 0) 65536 = (clip p : Int) := by unfold mn mx clip; split <;> (try split) <;> (try split) <;> (try split) <;> omega
theorem search_square (g : Int → Bool) (T p : Nat) (hp : p ≤ 60) (hg : ∀ y : Nat, y < 2 ^ p → (g (y : Int) = true ↔ y ≤ T)) :
    ∀ (n x : Nat), n ≤ p → x % 2 ^ n = 0 → x + 2 ^ n ≤ 2 ^ p → x ≤ T → T < x + 2 ^ n → root_Square.l0 g n (x : Int) = (T : Int) := by
  intro n
  induction n with
  | zero => intro x _ _ _ h1 h2; simp only [root_Square.l0]; have : x = T := by omega
            rw [this]
  | succ n ih =>
    intro x hn hx hb h1 h2
    have hp2 : (2 : Nat) ^ p ≤ 2 ^ 60 := Nat.pow_le_pow_right (by decide) hp
    have e2 : (2 : Nat) ^ (n + 1) = 2 * 2 ^ n := by rw [Nat.pow_succ, Nat.mul_comm]
    have hpos : 0 < (2 : Nat) ^ n := Nat.two_pow_pos n
    have hor := or_bit x n hx (by omega) (by omega)
    have hm : x % 2 ^ n = 0 := by
      have : x % (2 ^ n * 2) % 2 ^ n = x % 2 ^ n := Nat.mod_mul_right_mod x (2 ^ n) 2
      rw [← this, Nat.mul_comm, ← e2, hx, Nat.zero_mod]
    simp only [root_Square.l0]
    rw [hor]
    by_cases hc : x + 2 ^ n ≤ T
    · rw [if_pos ((hg _ (by omega)).2 hc)]
      exact ih (x + 2 ^ n) (by omega) (by rw [Nat.add_mod_right]; exact hm) (by omega) hc (by omega)
    · rw [if_neg (fun h => hc ((hg _ (by omega)).1 h))]
      exact ih x (by omega) hm (by omega) h1 (by omega)
theorem search_cube (g : Int → Bool) : ∀ (n : Nat) (x : Int), root_Cube.l0 g n x = root_Square.l0 g n x
  | 0, x => rfl
  | n + 1, x => by simp only [root_Cube.l0, root_Square.l0]; exact search_cube g n _

theorem below_iff (q n : Int) (b : Bool) (h : root_below.f (q / 18446744073709551616) (q % 18446744073709551616) n 0 = some b) : (b = true ↔ q ≤ n * 18446744073709551616) := by
  unfold root_below.f at h
  split at h
  · obtain rfl := Option.some.inj h; simp only [decide_eq_true_eq]; omega
  · obtain rfl := Option.some.inj h; simp only [decide_eq_true_eq]; omega
theorem nat_sq (y : Nat) : ((y ^ 2 : Nat) : Int) = (y : Int) * y := by rw [Nat.pow_succ, Nat.pow_one]; simp
theorem nat_cu (y : Nat) : ((y ^ 3 : Nat) : Int) = (y : Int) * y * y := by rw [Nat.pow_succ, Nat.pow_succ, Nat.pow_one]; simp
theorem sq_lt (y b : Nat) (h : y < b) : y ^ 2 < b ^ 2 := Nat.pow_lt_pow_left h (by decide)

theorem square_is (p : Int) : ∃ T : Nat, root_Square.f p = some (T : Int) ∧ IsRoot 2 (clip p * 2 ^ 64) T ∧ T ≤ 2 ^ 40 := by
  obtain ⟨T, hT⟩ := ex_root 2 (by decide) (clip p * 2 ^ 64)
  have hc := clip_le p
  have hT40 : T ≤ 2 ^ 40 := by
    have : T < 2 ^ 40 + 1 := hT.lt_of (by omega)
    omega
  refine ⟨T, ?_, hT, hT40⟩
  unfold root_Square.f
  congr 1
  refine search_square _ T 42 (by decide) ?_ 42 0 (Nat.le_refl _) (by decide) (by decide) (by omega) (by omega)
  intro y hy
  have hsq := sq_lt y (2 ^ 42) hy
  have hsq2 := nat_sq y
  obtain ⟨b, hb⟩ : ∃ b, root_Square1.f (root_Square.n p) (y : Int) = some b := ⟨_, root_Square1.some _ _⟩
  rw [hb, Option.getD_some]
  unfold root_Square1.f at hb
  rw [mul64 y y (by omega) (by omega) (by omega) (by omega)] at hb
  rw [below_iff _ _ b hb, ← hT.le_iff y]
  unfold root_Square.n
  rw [clip_mn]
  omega
theorem cube_is (p : Int) : ∃ T : Nat, root_Cube.f p = some (T : Int) ∧ IsRoot 3 (clip p * 2 ^ 96) T ∧ T < 2 ^ 38 := by
  obtain ⟨T, hT⟩ := ex_root 3 (by decide) (clip p * 2 ^ 96)
  have hc := clip_le p
  have hT38 : T < 2 ^ 38 := hT.lt_of (by omega)
  refine ⟨T, ?_, hT, hT38⟩
  unfold root_Cube.f
  congr 1
  rw [search_cube]
  refine search_square _ T 38 (by decide) ?_ 38 0 (Nat.le_refl _) (by decide) (by decide) (by omega) (by omega)
  intro y hy
  have hsq := sq_lt y (2 ^ 38) hy
  have hsq2 := nat_sq y
  have hcu := nat_cu y
  obtain ⟨b, hb⟩ : ∃ b, root_Cube1.f (root_Cube.n p) (y : Int) = some b := ⟨_, root_Cube1.some _ _⟩
  rw [hb, Option.getD_some]
  unfold root_Cube1.f at hb
  rw [mul64 y y (by omega) (by omega) (by omega) (by omega)] at hb
  simp only [Option.bind_some] at hb
  rw [mul64 _ y (by omega) (by omega) (by omega) (by omega)] at hb
  simp only [Option.bind_some] at hb
  have hq0 : 0 ≤ (y : Int) * y := by omega
  have hh := mul_le ((y : Int) * y / 18446744073709551616) y 4096 274877906944 (by omega) (by omega) (by omega) (by omega)
  have hl := mul_le ((y : Int) * y % 18446744073709551616) y 18446744073709551616 274877906944 (by omega) (by omega) (by omega) (by omega)
  have e : (y : Int) * y * y = (y : Int) * y / 18446744073709551616 * y * 18446744073709551616 + (y : Int) * y % 18446744073709551616 * y := by
    have e1 : (y : Int) * y = (y : Int) * y / 18446744073709551616 * 18446744073709551616 + (y : Int) * y % 18446744073709551616 := by omega
    generalize (y : Int) * y / 18446744073709551616 = h at *
    generalize (y : Int) * y % 18446744073709551616 = l at *
    rw [e1, Int.add_mul, Int.mul_assoc, Int.mul_comm 18446744073709551616 (y : Int), ← Int.mul_assoc]
  have ex : IntKind.u64.wrap ((y : Int) * y % 18446744073709551616 * y / 18446744073709551616 + IntKind.u64.wrap ((y : Int) * y / 18446744073709551616 * y)) = (y : Int) * y * y / 18446744073709551616 := by
    rw [u64w, u64w, e]
    generalize (y : Int) * y / 18446744073709551616 * y = H at *
    generalize (y : Int) * y % 18446744073709551616 * y = L at *
    omega
  have el : (y : Int) * y % 18446744073709551616 * y % 18446744073709551616 = (y : Int) * y * y % 18446744073709551616 := by
    rw [e]
    generalize (y : Int) * y / 18446744073709551616 * y = H at *
    generalize (y : Int) * y % 18446744073709551616 * y = L at *
    omega
  rw [ex, el] at hb
  rw [below_iff _ _ b hb, ← hT.le_iff y]
  unfold root_Cube.n
  rw [clip_mn, u64w]
  clear hb ex el e hh hl
  generalize (y : Int) * y * y = c at *
  omega
end Go.Proofs.Ytogjnipojakfjaa.LRoot

/- What the reference's functions on great numbers and roots answer. -/
namespace Go.Proofs.Ytogjnipojakfjaa.LRoot
open Go.RowKit Go.Proofs.Ytogjnipojakfjaa.SRoot Go.Proofs.Ytogjnipojakfjaa.PJd Go.Proofs.YtogjnipojakfjaaW.PrintWords Go.Proofs.YtogjnipojakfjaaW.PrintLast Go.Proofs.YtogjnipojakfjaaW.PrintMore
set_option linter.unusedVariables false
set_option linter.unusedSimpArgs false

theorem rd_at (l : List Int) (i : Nat) (h : i < l.length) : rd l (i : Int) = l[i] := by
  unfold rd
  rw [Int.toNat_natCast, List.getD_eq_getElem?_getD, List.getElem?_eq_getElem h]; rfl
theorem times_l1 : ∀ (n i : Nat) (out : List Int) (o : Int), n + i = 4 → 0 ≤ o → o < 65536 ^ n → Dig out → out.length + n ≤ 100 →
    ∃ b, Ev (fun k => notaryref02_Times.l1 k out o (i : Int)) b ∧ Dig b ∧ b.length = out.length + n ∧ val b = val out + o * 65536 ^ out.length := by
  intro n
  induction n with
  | zero =>
    intro i out o hn h0 h1 hd hl
    have ho : o = 0 := by simp at h1; omega
    subst ho
    refine ⟨out, Ev.step (f := fun _ => some out) (fun k => ?_) (Ev.now _), hd, by simp, by omega⟩
    simp only [notaryref02_Times.l1]
    rw [if_neg (by omega)]
  | succ n ih =>
    intro i out o hn h0 h1 hd hl
    have hp : (65536 : Int) ^ (n + 1) = 65536 * 65536 ^ n := by rw [Int.pow_succ, Int.mul_comm]
    have hb64 : o < 18446744073709551616 := by
      have h4 : (65536 : Nat) ^ (n + 1) ≤ 65536 ^ 4 := Nat.pow_le_pow_right (by decide) (by omega)
      rw [show (65536 : Nat) ^ 4 = 18446744073709551616 by decide] at h4
      have e4 : ((65536 ^ (n + 1) : Nat) : Int) = (65536 : Int) ^ (n + 1) := Int.natCast_pow 65536 (n + 1)
      omega
    have ht : Int.tmod o 65536 = o % 65536 := Int.tmod_eq_emod_of_nonneg h0
    have hq : Int.tdiv o 65536 = o / 65536 := Int.tdiv_eq_ediv_of_nonneg h0
    obtain ⟨b, hb, hbd, hbl, hbv⟩ := ih (i + 1) (out ++ [o % 65536]) (o / 65536) (by omega) (by omega) (by omega) (hd.snoc (by omega) (by omega)) (by simp; omega)
    refine ⟨b, Ev.step (fun k => ?_) hb, hbd, by simp at hbl; omega, ?_⟩
    · simp only [notaryref02_Times.l1]
      rw [if_pos (by omega), if_pos (by omega), ht, hq, u64w, w64 _ (by omega) (by omega), show o / 65536 % 18446744073709551616 = o / 65536 by omega]
      rfl
    · rw [hbv, val_snoc, List.length_append, List.length_singleton, Int.pow_succ]
      have e : o = o % 65536 + o / 65536 * 65536 := by omega
      generalize (65536 : Int) ^ out.length = P
      generalize o % 65536 = x at *
      generalize o / 65536 = y at *
      subst e
      rw [Int.add_mul, Int.mul_comm P, Int.mul_assoc]
      omega
theorem times_l0 (a : List Int) (x : Int) (ha : Dig a) (hal : a.length ≤ 40) (hx0 : 0 ≤ x) (hx1 : x ≤ 4398046511104) : ∀ (n i : Nat) (out : List Int) (o : Int), n + i = a.length → 0 ≤ o → o ≤ x → Dig out → out.length = i → val out + o * 65536 ^ i = val (a.take i) * x →
    ∃ b, Ev (fun k => notaryref02_Times.l0 k a x out o (i : Int)) b ∧ Dig b ∧ b.length = a.length + 4 ∧ val b = val a * x := by
  intro n
  induction n with
  | zero =>
    intro i out o hn h0 h1 hd hl hv
    obtain ⟨b, hb, hbd, hbl, hbv⟩ := times_l1 4 0 out o rfl h0 (by omega) hd (by omega)
    refine ⟨b, Ev.step (fun k => ?_) hb, hbd, by omega, ?_⟩
    · simp only [notaryref02_Times.l0]
      rw [if_neg (by omega)]; rfl
    · rw [hbv, hl, hv, List.take_of_length_le (by omega)]
  | succ n ih =>
    intro i out o hn h0 h1 hd hl hv
    have hi : i < a.length := by omega
    have hda := ha.at_ i hi
    have hm := mul_le a[i] x 65535 x (by omega) hx0 (by omega) (Int.le_refl _)
    have hr := rd_at a i hi
    have htk := val_take_succ a i hi
    generalize a[i] = d at *
    have hm0 : IntKind.u64.wrap (d * x) = d * x := by rw [u64w]; exact Int.emod_eq_of_lt hm.1 (by omega)
    have hv0 : IntKind.u64.wrap (d * x + o) = d * x + o := by rw [u64w]; exact Int.emod_eq_of_lt (by omega) (by omega)
    have hn0 : 0 ≤ d * x + o := by omega
    obtain ⟨b, hb, hbd, hbl, hbv⟩ := ih (i + 1) (out ++ [(d * x + o) % 65536]) ((d * x + o) / 65536) (by omega) (by omega) (by omega) (hd.snoc (by omega) (by omega)) (by simp; omega) (by
      rw [htk, Int.add_mul, ← hv, val_snoc, hl, Int.pow_succ]
      have e : d * x + o = (d * x + o) % 65536 + (d * x + o) / 65536 * 65536 := by omega
      have e3 : d * 65536 ^ i * x = d * x * 65536 ^ i := by rw [Int.mul_assoc, Int.mul_comm _ x, ← Int.mul_assoc]
      rw [e3]
      generalize (65536 : Int) ^ i = P
      generalize d * x = m at *
      have e4 : m * P + o * P = (m + o) % 65536 * P + (m + o) / 65536 * (P * 65536) := by
        rw [← Int.add_mul, Int.mul_comm P, ← Int.mul_assoc, ← Int.add_mul, ← e]
      omega)
    refine ⟨b, Ev.step (fun k => ?_) hb, hbd, hbl, hbv⟩
    simp only [notaryref02_Times.l0]
    rw [if_pos (by omega), if_pos (by omega), if_pos (by omega), hr, hm0, hv0, Int.tmod_eq_emod_of_nonneg hn0, Int.tdiv_eq_ediv_of_nonneg hn0, u64w, w64 _ (by omega) (by omega), Int.emod_eq_of_lt (show 0 ≤ (d * x + o) / 65536 by omega) (by omega)]
    rfl
theorem times_ev (a : List Int) (x : Int) (ha : Dig a) (hal : a.length ≤ 40) (hx0 : 0 ≤ x) (hx1 : x ≤ 4398046511104) :
    ∃ b, Ev (fun k => notaryref02_Times.f k a x) b ∧ Dig b ∧ b.length = a.length + 4 ∧ val b = val a * x := by
  obtain ⟨b, h⟩ := times_l0 a x ha hal hx0 hx1 a.length 0 [] 0 rfl (Int.le_refl _) hx0 Dig.nil rfl (by simp [val])
  exact ⟨b, h⟩

theorem power_l1 : ∀ (n : Nat) (a : List Int), n + a.length = 20 → Dig a → Ev (fun k => notaryref02_Power.l1 k a) (a ++ List.replicate n 0) := by
  intro n
  induction n with
  | zero =>
    intro a hn hd
    refine Ev.step (f := fun _ => some (a ++ List.replicate 0 0)) (fun k => ?_) (Ev.now _)
    simp only [notaryref02_Power.l1]
    rw [if_neg (by omega)]; simp
  | succ n ih =>
    intro a hn hd
    have := ih (a ++ [0]) (by simp; omega) (hd.snoc (by decide) (by decide))
    rw [List.append_assoc, List.singleton_append, ← List.replicate_succ] at this
    refine Ev.step (fun k => ?_) this
    simp only [notaryref02_Power.l1]
    rw [if_pos (by omega), if_pos (by omega)]
theorem power_l0 (x : Nat) (hx1 : x ≤ 4398046511104) (m : Nat) (hm : m ≤ 4) : ∀ (n i : Nat) (a : List Int), n + i = m → Dig a → a.length = 1 + 4 * i → val a = ((x ^ i : Nat) : Int) →
    ∃ b, Ev (fun k => notaryref02_Power.l0 k (x : Int) (m : Int) a (i : Int)) b ∧ Dig b ∧ b.length = 20 ∧ val b = ((x ^ m : Nat) : Int) := by
  intro n
  induction n with
  | zero =>
    intro i a hn hd hl hv
    obtain rfl : i = m := by omega
    have h := power_l1 (20 - a.length) a (by omega) hd
    refine ⟨_, Ev.step (fun k => ?_) h, hd.append ?_, ?_, ?_⟩
    · simp only [notaryref02_Power.l0]
      rw [if_neg (by omega)]
    · intro y hy; rw [List.eq_of_mem_replicate hy]; decide
    · simp; omega
    · rw [val_zeros, hv]
  | succ n ih =>
    intro i a hn hd hl hv
    obtain ⟨t, ht, htd, htl, htv⟩ := times_ev a x hd (by omega) (by omega) (by omega)
    obtain ⟨b, hb, hb2⟩ := ih (i + 1) t (by omega) htd (by omega) (by rw [htv, hv, Nat.pow_succ]; simp)
    refine ⟨b, ?_, hb2⟩
    refine Ev.step (f := fun k => (notaryref02_Times.f k a x).bind fun t => notaryref02_Power.l0 k (x : Int) (m : Int) t ((i + 1 : Nat) : Int)) (fun k => ?_) (Ev.bind ht hb)
    simp only [notaryref02_Power.l0]
    rw [if_pos (by omega), w64 _ (by omega) (by omega)]
    rfl
theorem power_ev (x : Nat) (hx1 : x ≤ 4398046511104) (m : Nat) (hm : m ≤ 4) : ∃ b, Ev (fun k => notaryref02_Power.f k (x : Int) (m : Int)) b ∧ Dig b ∧ b.length = 20 ∧ val b = ((x ^ m : Nat) : Int) :=
  power_l0 x hx1 m hm m 0 [1] rfl (Dig.cons (by decide) (by decide) Dig.nil) rfl (by simp [val])

theorem most_l0 (a b : List Int) (ha : Dig a) (hb : Dig b) (hal : a.length = 20) (hbl : b.length = 20) : ∀ (n : Nat), n ≤ 20 → ∀ i : Int, i = (n : Int) - 1 →
    Ev (fun k => notaryref02_Most.l0 k a b i) (decide (val (a.take n) ≤ val (b.take n))) := by
  intro n
  induction n with
  | zero =>
    intro hn i hi
    subst hi
    refine Ev.step (f := fun _ => some true) (fun k => ?_) ?_
    · simp only [notaryref02_Most.l0]; rw [if_neg (by omega)]
    · simp [val]; exact Ev.now _
  | succ n ih =>
    intro hn i hi
    have hi' : i = (n : Int) := by omega
    subst hi'
    have h1 : n < a.length := by omega
    have h2 : n < b.length := by omega
    rw [val_take_succ a n h1, val_take_succ b n h2]
    have r1 := rd_at a n h1
    have r2 := rd_at b n h2
    by_cases he : a[n] = b[n]
    · have := ih (by omega) ((n : Int) - 1) rfl
      rw [show decide (val (a.take n) + a[n] * 65536 ^ n ≤ val (b.take n) + b[n] * 65536 ^ n) = decide (val (a.take n) ≤ val (b.take n)) by rw [he, decide_eq_decide]; omega]
      refine Ev.step (fun k => ?_) this
      simp only [notaryref02_Most.l0]
      rw [if_pos (by omega), if_pos (by omega), if_pos (by omega), if_pos (by omega), r1, r2, if_pos he, w64 _ (by omega) (by omega)]
    · have hda : Dig (a.take n) := fun y hy => ha y (List.mem_of_mem_take hy)
      have hdb : Dig (b.take n) := fun y hy => hb y (List.mem_of_mem_take hy)
      have la := val_lt _ hda
      have lb := val_lt _ hdb
      rw [List.length_take, Nat.min_eq_left (by omega)] at la lb
      have hc := cmp_step _ _ a[n] b[n] n (val_nonneg _ hda) la (val_nonneg _ hdb) lb he
      rw [show decide (val (a.take n) + a[n] * 65536 ^ n ≤ val (b.take n) + b[n] * 65536 ^ n) = decide (a[n] < b[n]) by rw [decide_eq_decide]; exact hc]
      refine Ev.step (f := fun _ => some (decide (a[n] < b[n]))) (fun k => ?_) (Ev.now _)
      simp only [notaryref02_Most.l0]
      rw [if_pos (by omega), if_pos (by omega), if_pos (by omega), if_pos (by omega), r1, r2, if_neg he]
theorem most_ev (a b : List Int) (ha : Dig a) (hb : Dig b) (hal : a.length = 20) (hbl : b.length = 20) : Ev (fun k => notaryref02_Most.f k a b) (decide (val a ≤ val b)) := by
  have := most_l0 a b ha hb hal hbl 20 (Nat.le_refl _) 19 rfl
  rw [List.take_of_length_le (by omega), List.take_of_length_le (by omega)] at this
  exact this

theorem rclip (p : Int) (h0 : -9223372036854775808 ≤ p) : notaryref02_Clip.f p = some (clip p : Int) := by
  unfold notaryref02_Clip.f clip
  split
  · rfl
  · split
    · rfl
    · rw [u64w]; congr 1; omega
theorem shifted (c m : Nat) (hc : c ≤ 65536) (hm : m < 19) : ∃ b, notaryref02_Shifted.f (c : Int) (m : Int) = some b ∧ Dig b ∧ b.length = 20 ∧ val b = ((c * 65536 ^ m : Nat) : Int) := by
  have e1 : Int.tmod (c : Int) 65536 = (c : Int) % 65536 := Int.tmod_eq_emod_of_nonneg (by omega)
  have e2 : Int.tdiv (c : Int) 65536 = (c : Int) / 65536 := Int.tdiv_eq_ediv_of_nonneg (by omega)
  refine ⟨List.replicate m 0 ++ (c : Int) % 65536 :: (c : Int) / 65536 :: List.replicate (18 - m) 0, ?_, ?_, ?_, ?_⟩
  · unfold notaryref02_Shifted.f
    rw [if_pos (by decide)]
    simp only [Option.bind_some, List.length_replicate]
    rw [w64 _ (by omega) (by omega), if_pos (by omega), if_pos (by omega), if_pos (by omega), if_pos (by omega), e1, e2, u64w]
    congr 1
    rw [show (20 : Nat) = m + (2 + (18 - m)) by omega, ← List.replicate_append_replicate, ← List.replicate_append_replicate]
    rw [show (c : Int) / 65536 % 18446744073709551616 = (c : Int) / 65536 by omega, Int.toNat_natCast, show ((m : Int) + 1).toNat = m + 1 by omega]
    rw [List.set_append_right _ _ (by simp), List.set_append_right _ _ (by simp)]
    simp [List.replicate_succ]
  · refine Dig.append ?_ (Dig.cons (by omega) (by omega) (Dig.cons (by omega) (by omega) ?_))
    · intro y hy; rw [List.eq_of_mem_replicate hy]; decide
    · intro y hy; rw [List.eq_of_mem_replicate hy]; decide
  · simp; omega
  · have hz : ∀ (m : Nat) (r : List Int), val (List.replicate m 0 ++ r) = val r * 65536 ^ m := by
      intro m r
      induction m with
      | zero => simp
      | succ m ih => simp only [List.replicate_succ, List.cons_append, val, ih, Int.pow_succ]; grind
    rw [hz]
    have hz2 := val_zeros [] (18 - m)
    simp only [List.nil_append] at hz2
    simp only [val, hz2]
    rw [show (c : Int) % 65536 + 65536 * ((c : Int) / 65536 + 65536 * 0) = (c : Int) by omega]
    simp
end Go.Proofs.Ytogjnipojakfjaa.LRoot

/- What the reference's root answers, and the first primes. -/
namespace Go.Proofs.Ytogjnipojakfjaa.LRoot
open Go.RowKit Go.Proofs.Ytogjnipojakfjaa.SRoot Go.Proofs.Ytogjnipojakfjaa.PJd Go.Proofs.YtogjnipojakfjaaW.PrintWords Go.Proofs.YtogjnipojakfjaaW.PrintLast Go.Proofs.YtogjnipojakfjaaW.PrintMore
set_option linter.unusedVariables false
set_option linter.unusedSimpArgs false

/-- the unit of round n: 2^(n-1), 0 behind the last -/
def unit (n : Nat) : Nat := 2 ^ n / 2
theorem unit_succ (n : Nat) : unit (n + 1) = 2 ^ n := by unfold unit; rw [Nat.pow_succ]; omega
theorem unit_half (n : Nat) : unit (n + 1) / 2 = unit n := by rw [unit_succ]; rfl
theorem root_l0 (m N T : Nat) (hm : m ≤ 4) (hT : IsRoot m N T) (l : List Int) (hl : l.length = 20) (hd : Dig l) (hv : val l = (N : Int)) : ∀ (n x : Nat), n ≤ 42 → x + 2 ^ n ≤ 2 ^ 42 → x ≤ T → T < x + 2 ^ n →
    Ev (fun k => notaryref02_Root.l0 k (m : Int) l (x : Int) (unit n : Int)) (T : Int) := by
  intro n
  induction n with
  | zero =>
    intro x hn hb h1 h2
    obtain rfl : x = T := by omega
    refine Ev.step (f := fun _ => some (x : Int)) (fun k => ?_) (Ev.now _)
    simp only [notaryref02_Root.l0]
    rw [if_neg (by simp [unit])]
  | succ n ih =>
    intro x hn hb h1 h2
    have e2 : (2 : Nat) ^ (n + 1) = 2 * 2 ^ n := by rw [Nat.pow_succ, Nat.mul_comm]
    have hpos : 0 < (2 : Nat) ^ n := Nat.two_pow_pos n
    have hu := unit_succ n
    have huh := unit_half n
    have ew : IntKind.u64.wrap ((x : Int) + (unit (n + 1) : Nat)) = ((x + 2 ^ n : Nat) : Int) := by rw [hu, u64w]; omega
    have ed : IntKind.u64.wrap (Int.tdiv (unit (n + 1) : Nat) 2) = ((unit n : Nat) : Int) := by
      rw [Int.tdiv_eq_ediv_of_nonneg (by omega), u64w]; omega
    obtain ⟨b, hpb, hbd, hbl, hbv⟩ := power_ev (x + 2 ^ n) (by omega) m hm
    have hmo := most_ev b l hbd hd hbl hl
    rw [hbv, hv] at hmo
    by_cases hc : x + 2 ^ n ≤ T
    · have hdec : decide (((((x + 2 ^ n) ^ m : Nat)) : Int) ≤ (N : Int)) = true := decide_eq_true (by have := (hT.le_iff (x + 2 ^ n)).2 hc; omega)
      rw [hdec] at hmo
      refine Ev.step (f := fun k => (notaryref02_Power.f k ((x + 2 ^ n : Nat) : Int) (m : Int)).bind fun t => ((notaryref02_Most.f k t l).bind fun t2 => (if t2 = true then (notaryref02_Root.l0 k (m : Int) l ((x + 2 ^ n : Nat) : Int) (unit n : Int)) else (notaryref02_Root.l0 k (m : Int) l x (unit n : Int))))) (fun k => ?_) (Ev.bind hpb (Ev.bind hmo ?_))
      · simp only [notaryref02_Root.l0]
        rw [if_pos (by omega), ew, ed]
      · simp only [if_true]
        exact ih (x + 2 ^ n) (by omega) (by omega) hc (by omega)
    · have hdec : decide (((((x + 2 ^ n) ^ m : Nat)) : Int) ≤ (N : Int)) = false := decide_eq_false (fun h => hc ((hT.le_iff (x + 2 ^ n)).1 (by omega)))
      rw [hdec] at hmo
      refine Ev.step (f := fun k => (notaryref02_Power.f k ((x + 2 ^ n : Nat) : Int) (m : Int)).bind fun t => ((notaryref02_Most.f k t l).bind fun t2 => (if t2 = true then (notaryref02_Root.l0 k (m : Int) l ((x + 2 ^ n : Nat) : Int) (unit n : Int)) else (notaryref02_Root.l0 k (m : Int) l x (unit n : Int))))) (fun k => ?_) (Ev.bind hpb (Ev.bind hmo ?_))
      · simp only [notaryref02_Root.l0]
        rw [if_pos (by omega), ew, ed]
      · simp only [Bool.false_eq_true, if_false]
        exact ih x (by omega) (by omega) h1 (by omega)
theorem root3_ev (p : Int) (h0 : -9223372036854775808 ≤ p) (T : Nat) (hT : IsRoot 3 (clip p * 2 ^ 96) T) : Ev (fun k => notaryref02_Root.f k p 3) (T : Int) := by
  have hc := clip_le p
  have hT38 : T < 2 ^ 38 := hT.lt_of (by omega)
  obtain ⟨l, hl, hld, hll, hlv⟩ := shifted (clip p) 6 hc (by decide)
  refine Ev.congr (f := fun k => notaryref02_Root.j0 k 3 l 0 274877906944) (fun k => ?_) ?_
  · unfold notaryref02_Root.f
    rw [rclip p h0]
    simp only [Option.bind_some]
    rw [show wrap64 (2 * 3) = ((6 : Nat) : Int) by unfold wrap64; omega, hl]
    simp
  · refine Ev.step (f := fun k => notaryref02_Root.l0 k 3 l 0 274877906944) (fun k => by simp [notaryref02_Root.j0]) ?_
    exact root_l0 3 (clip p * 2 ^ 96) T (by decide) hT l hll hld (by rw [hlv]) 39 0 (by decide) (by decide) (by omega) (by omega)
theorem root2_ev (p : Int) (h0 : -9223372036854775808 ≤ p) (T : Nat) (hT : IsRoot 2 (clip p * 2 ^ 64) T) : Ev (fun k => notaryref02_Root.f k p 2) (T : Int) := by
  have hc := clip_le p
  have hT38 : T < 2 ^ 41 := hT.lt_of (by omega)
  obtain ⟨l, hl, hld, hll, hlv⟩ := shifted (clip p) 4 hc (by decide)
  refine Ev.congr (f := fun k => notaryref02_Root.j0 k 2 l 0 2199023255552) (fun k => ?_) ?_
  · unfold notaryref02_Root.f
    rw [rclip p h0]
    simp only [Option.bind_some]
    rw [show wrap64 (2 * 2) = ((4 : Nat) : Int) by unfold wrap64; omega, hl]
    simp
  · refine Ev.step (f := fun k => notaryref02_Root.l0 k 2 l 0 2199023255552) (fun k => by simp [notaryref02_Root.j0]) ?_
    exact root_l0 2 (clip p * 2 ^ 64) T (by decide) hT l hll hld (by rw [hlv]) 42 0 (by decide) (by decide) (by omega) (by omega)

/-! ### primes -/
/-- how many are asked for -/
def many (n : Int) : Nat := (if n < 0 then 0 else if n > 100 then 100 else n).toNat
theorem many_le (n : Int) : many n ≤ 100 := by unfold many; split <;> (try split) <;> omega
theorem many_mn (n : Int) : mn (mx n 0) 100 = (many n : Int) := by unfold mn mx many; split <;> (try split) <;> (try split) <;> (try split) <;> omega
theorem primes_all : ∀ n : Fin 101, root_Primes.l0 1000 (n.val : Int) [] 2 = some (primes.take n.val) := by decide +kernel
theorem primes_is (n : Int) : root_Primes.f n = some (primes.take (many n)) := by
  unfold root_Primes.f
  rw [many_mn]
  exact primes_all ⟨many n, by have := many_le n; omega⟩
theorem rprimes_all : ∀ n : Fin 101, notaryref02_Primes.l0 2000 (n.val : Int) [] 2 = some (primes.take n.val) := by decide +kernel
theorem rprimes_big (n : Int) (hn : 100 ≤ n) : ∀ k, (∀ (out : List Int) (x : Int), notaryref02_Primes.l0 k n out x = notaryref02_Primes.l0 k 100 out x) ∧ (∀ (out : List Int) (x : Int) (b : Bool), notaryref02_Primes.j1 k n out x b = notaryref02_Primes.j1 k 100 out x b) := by
  intro k
  induction k with
  | zero => exact ⟨fun _ _ => by simp only [notaryref02_Primes.l0], fun _ _ _ => by simp only [notaryref02_Primes.j1]⟩
  | succ k ih =>
    constructor
    · intro out x
      simp only [notaryref02_Primes.l0, ih.2]
      by_cases h6 : x < 600
      · rw [if_pos h6, if_pos h6]
        by_cases hl : (out.length : Int) < 100
        · rw [if_pos (by omega), if_pos hl]
        · rw [if_neg hl, decide_eq_false hl]
          split <;> rfl
      · rw [if_neg h6, if_neg h6]
    · intro out x b
      simp only [notaryref02_Primes.j1, ih.1]
theorem rprimes_ev (n : Int) : Ev (fun k => notaryref02_Primes.f k n) (primes.take (many n)) := by
  refine Ev.of (k := 2000) (fun k => notaryref02_Primes.mono n k) ?_
  unfold notaryref02_Primes.f
  have hm := many_le n
  have ha := rprimes_all ⟨many n, by omega⟩
  simp only at ha
  by_cases h0 : n < 0
  · have e : many n = 0 := by unfold many; rw [if_pos h0]; rfl
    rw [e] at ha ⊢
    rw [← ha]
    have hl : ¬ (([] : List Int).length : Int) < n := by simp; omega
    have hl0 : ¬ (([] : List Int).length : Int) < ((0 : Nat) : Int) := by simp
    rw [show (2000 : Nat) = 1998 + 1 + 1 by decide]
    simp only [notaryref02_Primes.l0]
    rw [if_pos (by decide), if_neg hl, if_pos (by decide), if_neg hl0]
    simp only [notaryref02_Primes.j1, Bool.false_eq_true, if_false]
  · by_cases h1 : 100 ≤ n
    · have e : many n = 100 := by unfold many; rw [if_neg h0]; split <;> omega
      rw [e] at ha ⊢
      rw [(rprimes_big n h1 2000).1]
      exact ha
    · have e : ((many n : Nat) : Int) = n := by unfold many; rw [if_neg h0, if_neg (by omega)]; omega
      rw [e] at ha
      exact ha
end Go.Proofs.Ytogjnipojakfjaa.LRoot
