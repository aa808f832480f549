/- Numbers as bytes, over lists alone: what is written is read back, and what is read has just those bytes. -/
import Derived.RowKit
import Derived.Laws.BitsAllLaws
namespace Go.Proofs.Ytiamcmjdoobaeaa.SVarint
open Go.RowKit

/-- The bytes of a number, the lowest seven bits first: at most n + 1 of them. -/
def encN : Nat → Int → List Int
  | 0, v => [v % 256]
  | n + 1, v => if v < 128 then [v % 256] else (v % 128 + 128) :: encN n (v / 128)
def enc (v : Int) : List Int := encN 9 v

/-- What is read: the number, how many bytes it has, what is wrong. -/
def dec : List Int → Nat → Int → Int × Nat × Int
  | [], _, _ => (0, 0, 1)
  | c :: r, i, a => if i = 9 ∧ c ≠ 1 then (0, 0, 2) else if 0 < i ∧ c = 0 then (0, 0, 2) else if c < 128 then (a + c * 128 ^ i, i + 1, 0) else dec r (i + 1) (a + (c - 128) * 128 ^ i)

/-- a list of bytes -/
def Byt (l : List Int) : Prop := ∀ x ∈ l, 0 ≤ x ∧ x < 256
theorem Byt.nil : Byt [] := fun _ h => by cases h
theorem Byt.cons {c : Int} {l : List Int} (h0 : 0 ≤ c) (h1 : c < 256) (h : Byt l) : Byt (c :: l) := by
  intro x hx
  rcases List.mem_cons.1 hx with rfl | hx
  · exact ⟨h0, h1⟩
  · exact h x hx
theorem Byt.append {l r : List Int} (h : Byt l) (g : Byt r) : Byt (l ++ r) := fun x hx => (List.mem_append.1 hx).elim (h x) (g x)
theorem Byt.drop {l : List Int} (h : Byt l) (n : Nat) : Byt (l.drop n) := fun x hx => h x (List.mem_of_mem_drop hx)
theorem Byt.take {l : List Int} (h : Byt l) (n : Nat) : Byt (l.take n) := fun x hx => h x (List.mem_of_mem_take hx)
theorem Byt.head {c : Int} {l : List Int} (h : Byt (c :: l)) : 0 ≤ c ∧ c < 256 := h c (by simp)
theorem Byt.tail {c : Int} {l : List Int} (h : Byt (c :: l)) : Byt l := fun x hx => h x (by simp [hx])
theorem Byt.at_ {l : List Int} (h : Byt l) (i : Nat) (hi : i < l.length) : 0 ≤ l[i] ∧ l[i] < 256 := h _ (List.getElem_mem hi)

theorem encN_byt : ∀ (n : Nat) (v : Int), 0 ≤ v → Byt (encN n v)
  | 0, v, h => Byt.cons (by omega) (by omega) Byt.nil
  | n + 1, v, h => by
    unfold encN; split
    · exact Byt.cons (by omega) (by omega) Byt.nil
    · exact Byt.cons (by omega) (by omega) (encN_byt n _ (by omega))
theorem encN_length : ∀ (n : Nat) (v : Int), 1 ≤ (encN n v).length ∧ (encN n v).length ≤ n + 1
  | 0, v => by simp [encN]
  | n + 1, v => by
    unfold encN; split
    · simp
    · have := encN_length n (v / 128); simp only [List.length_cons]; omega
theorem enc_byt (v : Int) (h : 0 ≤ v) : Byt (enc v) := encN_byt 9 v h
theorem enc_length (v : Int) : 1 ≤ (enc v).length ∧ (enc v).length ≤ 10 := encN_length 9 v
theorem pow_pos' (i : Nat) : (0 : Int) < 128 ^ i := Int.pow_pos (by decide)
theorem pow_succ' (i : Nat) : (128 : Int) ^ (i + 1) = 128 * 128 ^ i := by rw [Int.pow_succ, Int.mul_comm]

/-- reading back what was written: from group i on -/
theorem dec_encN : ∀ (n i : Nat) (v a : Int) (rest : List Int), n + i = 9 → 0 ≤ v → v < 2 * 128 ^ n → (0 < i → 0 < v) → dec (encN n v ++ rest) i a = (a + v * 128 ^ i, i + (encN n v).length, 0)
  | 0, i, v, a, rest, hn, h0, h1, hi => by
    have hv : v = 1 := by have := hi (by omega); simp at h1; omega
    subst hv
    simp [encN, dec]
  | n + 1, i, v, a, rest, hn, h0, h1, hi => by
    unfold encN
    by_cases h : v < 128
    · rw [if_pos h]
      have hv : v % 256 = v := by omega
      rw [hv]
      simp only [List.cons_append, List.nil_append, dec, List.length_cons, List.length_nil]
      rw [if_neg (by omega), if_neg (by intro ⟨x, y⟩; have := hi x; omega), if_pos h]
    · rw [if_neg h]
      simp only [List.cons_append, dec, List.length_cons]
      rw [if_neg (by omega), if_neg (by omega), if_neg (by omega)]
      have hp := pow_succ' n
      rw [dec_encN n (i + 1) (v / 128) _ rest (by omega) (by omega) (by omega) (by omega)]
      have e : a + (v % 128 + 128 - 128) * 128 ^ i + v / 128 * 128 ^ (i + 1) = a + v * 128 ^ i := by
        rw [pow_succ']
        have : v * 128 ^ i = (v % 128) * 128 ^ i + v / 128 * (128 * 128 ^ i) := by
          rw [← Int.mul_assoc, ← Int.add_mul]; congr 1; omega
        rw [this, show v % 128 + 128 - 128 = v % 128 by omega]; omega
      rw [e, show i + 1 + (encN n (v / 128)).length = i + ((encN n (v / 128)).length + 1) by omega]
theorem dec_enc (v : Int) (rest : List Int) (h0 : 0 ≤ v) (h1 : v < 18446744073709551616) : dec (enc v ++ rest) 0 0 = (v, (enc v).length, 0) := by
  unfold enc
  rw [dec_encN 9 0 v 0 rest (by omega) h0 (by simpa using h1) (by omega)]
  simp

/-- what is read has just those bytes -/
theorem dec_ok : ∀ (n i : Nat) (l : List Int) (a : Int) (v : Int) (m : Nat), n + i = 9 → Byt l → dec l i a = (v, m, 0) →
    ∃ u : Int, 0 ≤ u ∧ u < 2 * 128 ^ n ∧ (0 < i → 0 < u) ∧ v = a + u * 128 ^ i ∧ m = i + (encN n u).length ∧ (encN n u).length ≤ l.length ∧ l.take (encN n u).length = encN n u
  | n, i, [], a, v, m, hn, hb, h => by simp [dec] at h
  | 0, i, c :: r, a, v, m, hn, hb, h => by
    have hi : i = 9 := by omega
    subst hi
    simp only [dec] at h
    by_cases hc : c = 1
    · subst hc
      simp at h
      exact ⟨1, by simp [encN]; omega⟩
    · rw [if_pos ⟨trivial, hc⟩] at h; simp at h
  | n + 1, i, c :: r, a, v, m, hn, hb, h => by
    simp only [dec] at h
    rw [if_neg (by omega)] at h
    by_cases hz : 0 < i ∧ c = 0
    · rw [if_pos hz] at h; simp at h
    · rw [if_neg hz] at h
      have hc := hb.head
      have hp := pow_succ' n
      have hpp := pow_pos' n
      by_cases h8 : c < 128
      · rw [if_pos h8] at h
        simp at h
        refine ⟨c, by omega, by omega, by omega, by omega, ?_⟩
        unfold encN
        rw [if_pos h8]
        simp; omega
      · rw [if_neg h8] at h
        obtain ⟨u, u0, u1, u2, e1, e2, e3, e4⟩ := dec_ok n (i + 1) r _ v m (by omega) hb.tail h
        have hu := u2 (by omega)
        refine ⟨c - 128 + 128 * u, by omega, by omega, by omega, ?_, ?_⟩
        · rw [e1, pow_succ', Int.add_mul]
          have : 128 * u * 128 ^ i = u * (128 * 128 ^ i) := by rw [Int.mul_comm 128 u, Int.mul_assoc]
          rw [this]; omega
        · unfold encN
          rw [if_neg (by omega), show (c - 128 + 128 * u) / 128 = u by omega, show (c - 128 + 128 * u) % 128 + 128 = c by omega]
          simp only [List.length_cons, List.take_succ_cons, e4]
          refine ⟨by omega, by omega, trivial⟩
theorem dec_is (l : List Int) (hb : Byt l) (v : Int) (m : Nat) (h : dec l 0 0 = (v, m, 0)) : 0 ≤ v ∧ v < 18446744073709551616 ∧ m = (enc v).length ∧ m ≤ l.length ∧ l.take m = enc v := by
  obtain ⟨u, u0, u1, _, e1, e2, e3, e4⟩ := dec_ok 9 0 l 0 v m (by omega) hb h
  obtain rfl : u = v := by simp at e1; omega
  unfold enc
  refine ⟨u0, by simpa using u1, by omega, by omega, ?_⟩
  rw [e2]; simpa using e4
end Go.Proofs.Ytiamcmjdoobaeaa.SVarint
