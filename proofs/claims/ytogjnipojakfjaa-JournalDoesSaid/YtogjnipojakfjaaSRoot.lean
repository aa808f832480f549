/- Roots of numbers, and great numbers in parts of 16 bits, over numbers and lists alone. -/
import Derived.RowKit
import Derived.Laws.BitsAllLaws
namespace Go.Proofs.Ytogjnipojakfjaa.SRoot
open Go.RowKit
set_option linter.unusedVariables false
set_option linter.unusedSimpArgs false

/-- T is the k-th root of N, rounded down. -/
def IsRoot (k N T : Nat) : Prop := T ^ k ≤ N ∧ N < (T + 1) ^ k
theorem ex_root (k : Nat) (hk : k ≠ 0) (N : Nat) : ∃ T, IsRoot k N T := by
  induction N with
  | zero => exact ⟨0, by simp [Nat.zero_pow (Nat.pos_of_ne_zero hk)], by simp⟩
  | succ N ih =>
    obtain ⟨T, h1, h2⟩ := ih
    by_cases h : (T + 1) ^ k ≤ N + 1
    · have := Nat.pow_lt_pow_left (show T + 1 < T + 1 + 1 by omega) hk
      exact ⟨T + 1, h, by omega⟩
    · exact ⟨T, by omega, by omega⟩
theorem IsRoot.le_iff {k N T : Nat} (h : IsRoot k N T) (y : Nat) : y ^ k ≤ N ↔ y ≤ T := by
  constructor
  · intro hy
    by_cases hc : y ≤ T
    · exact hc
    · have := Nat.pow_le_pow_left (show T + 1 ≤ y by omega) k
      have := h.2
      omega
  · intro hy
    exact Nat.le_trans (Nat.pow_le_pow_left hy k) h.1
theorem IsRoot.lt_of {k N T M : Nat} (h : IsRoot k N T) (hM : N < M ^ k) : T < M := by
  by_cases hc : T < M
  · exact hc
  · have := Nat.pow_le_pow_left (show M ≤ T by omega) k
    have := h.1
    omega
theorem IsRoot.mono {k N N' T T' : Nat} (h : IsRoot k N T) (h' : IsRoot k N' T') (hn : N ≤ N') : T ≤ T' := (h'.le_iff T).1 (Nat.le_trans h.1 hn)
theorem or_bit (x n : Nat) (hx : x % 2 ^ (n + 1) = 0) (hn : n < 64) (hb : x + 2 ^ n < 18446744073709551616) : bits .or .u64 (x : Int) (IntKind.u64.wrap (2 ^ n)) = ((x + 2 ^ n : Nat) : Int) := by
  have hp : (2 : Nat) ^ n < 18446744073709551616 := by omega
  have ew : IntKind.u64.wrap (2 ^ n) = ((2 ^ n : Nat) : Int) := by
    rw [show IntKind.u64.wrap (2 ^ n) = (2 ^ n : Int) % 18446744073709551616 by simp [IntKind.wrap, IntKind.bits, IntKind.signed]]
    have : (2 : Int) ^ n = ((2 ^ n : Nat) : Int) := by simp
    rw [this]; omega
  rw [ew, u64_or _ _ (by omega) (by omega) (by omega) (by omega), Int.toNat_natCast, Int.toNat_natCast]
  rw [nat_join (n + 1) x (2 ^ n) hx (Nat.pow_lt_pow_right (by decide) (by omega))]

/-! ### great numbers in parts -/
def Dig (l : List Int) : Prop := ∀ x ∈ l, 0 ≤ x ∧ x < 65536
def val : List Int → Int
  | [] => 0
  | d :: r => d + 65536 * val r
theorem Dig.nil : Dig [] := fun _ h => by cases h
theorem Dig.cons {c : Int} {l : List Int} (h0 : 0 ≤ c) (h1 : c < 65536) (h : Dig l) : Dig (c :: l) := by
  intro x hx
  rcases List.mem_cons.1 hx with rfl | hx
  · exact ⟨h0, h1⟩
  · exact h x hx
theorem Dig.append {l r : List Int} (h : Dig l) (g : Dig r) : Dig (l ++ r) := fun x hx => (List.mem_append.1 hx).elim (h x) (g x)
theorem Dig.snoc {l : List Int} {c : Int} (h : Dig l) (h0 : 0 ≤ c) (h1 : c < 65536) : Dig (l ++ [c]) := h.append (Dig.cons h0 h1 Dig.nil)
theorem Dig.head {c : Int} {l : List Int} (h : Dig (c :: l)) : 0 ≤ c ∧ c < 65536 := h c (by simp)
theorem Dig.tail {c : Int} {l : List Int} (h : Dig (c :: l)) : Dig l := fun x hx => h x (by simp [hx])
theorem Dig.at_ {l : List Int} (h : Dig l) (i : Nat) (hi : i < l.length) : 0 ≤ l[i] ∧ l[i] < 65536 := h _ (List.getElem_mem hi)
theorem val_snoc (l : List Int) (d : Int) : val (l ++ [d]) = val l + d * 65536 ^ l.length := by
  induction l with
  | nil => simp [val]
  | cons c r ih =>
    simp only [List.cons_append, val, List.length_cons, ih, Int.pow_succ]
    rw [Int.mul_add, ← Int.mul_assoc, Int.mul_comm (65536 ^ r.length) 65536, ← Int.mul_assoc, Int.mul_comm 65536 d]
    omega
theorem val_zeros (l : List Int) (n : Nat) : val (l ++ List.replicate n 0) = val l := by
  induction l with
  | nil =>
    induction n with
    | zero => rfl
    | succ n ih => simp only [List.nil_append, List.replicate_succ, val] at ih ⊢; omega
  | cons c r ih => simp only [List.cons_append, val, ih]
theorem val_nonneg : ∀ (l : List Int), Dig l → 0 ≤ val l
  | [], _ => by simp [val]
  | c :: r, h => by have := val_nonneg r h.tail; have := h.head; simp only [val]; omega
theorem val_lt : ∀ (l : List Int), Dig l → val l < 65536 ^ l.length
  | [], _ => by simp [val]
  | c :: r, h => by have := val_lt r h.tail; have := h.head; simp only [val, List.length_cons, Int.pow_succ]; omega
theorem val_take_succ (l : List Int) (i : Nat) (h : i < l.length) : val (l.take (i + 1)) = val (l.take i) + l[i] * 65536 ^ i := by
  rw [List.take_succ_eq_append_getElem h, val_snoc, List.length_take, Nat.min_eq_left (by omega)]
/-- the comparison from the greatest part down is that of the values -/
theorem cmp_step (a b x y : Int) (l : Nat) (ha : 0 ≤ a) (ha2 : a < 65536 ^ l) (hb : 0 ≤ b) (hb2 : b < 65536 ^ l) (hne : x ≠ y) : (a + x * 65536 ^ l ≤ b + y * 65536 ^ l) ↔ x < y := by
  have hp : (0 : Int) < 65536 ^ l := Int.pow_pos (by decide)
  generalize (65536 : Int) ^ l = P at *
  constructor
  · intro h
    by_cases hc : x < y
    · exact hc
    · have h1 : y + 1 ≤ x := by omega
      have h2 : (y + 1) * P ≤ x * P := Int.mul_le_mul_of_nonneg_right h1 (by omega)
      rw [Int.add_mul] at h2; omega
  · intro h
    have h2 : (x + 1) * P ≤ y * P := Int.mul_le_mul_of_nonneg_right (by omega) (by omega)
    rw [Int.add_mul] at h2; omega
/-- the first primes, a hundred of them -/
def primes : List Int := [2, 3, 5, 7, 11, 13, 17, 19, 23, 29, 31, 37, 41, 43, 47, 53, 59, 61, 67, 71, 73, 79, 83, 89, 97, 101, 103, 107, 109, 113, 127, 131, 137, 139, 149, 151, 157, 163, 167, 173, 179, 181, 191, 193, 197, 199, 211, 223, 227, 229, 233, 239, 241, 251, 257, 263, 269, 271, 277, 281, 283, 293, 307, 311, 313, 317, 331, 337, 347, 349, 353, 359, 367, 373, 379, 383, 389, 397, 401, 409, 419, 421, 431, 433, 439, 443, 449, 457, 461, 463, 467, 479, 487, 491, 499, 503, 509, 521, 523, 541]
end Go.Proofs.Ytogjnipojakfjaa.SRoot
