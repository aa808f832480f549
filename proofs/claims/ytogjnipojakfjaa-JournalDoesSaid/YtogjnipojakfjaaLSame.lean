/- Lists of bytes held against one another: what the reference's and the program's functions answer. -/
import Derived.Laws.BitsAllLaws
import Derived.Test.YtogjnipojakfjaaPJdx3
import Derived.Test.YtogjnipojakfjaaPJdx10
namespace Go.Proofs.Ytogjnipojakfjaa.LSame
open Go.RowKit Go.Proofs.Ytogjnipojakfjaa.PJd Go.Proofs.YtogjnipojakfjaaW.PrintWords Go.Proofs.YtogjnipojakfjaaW.PrintLast Go.Proofs.YtogjnipojakfjaaW.PrintMore
set_option linter.unusedVariables false
set_option linter.unusedSimpArgs false

theorem u64w (n : Int) : IntKind.u64.wrap n = n % 18446744073709551616 := by simp [IntKind.wrap, IntKind.bits, IntKind.signed]
theorem w64 (n : Int) (h0 : -9223372036854775808 ≤ n) (h1 : n < 9223372036854775808) : wrap64 n = n := by unfold wrap64; omega
theorem rd_at (l : List Int) (i : Nat) (h : i < l.length) : rd l (i : Int) = l[i] := by
  unfold rd
  rw [Int.toNat_natCast, List.getD_eq_getElem?_getD, List.getElem?_eq_getElem h]; rfl
/-- a list of bytes -/
def Byt (l : List Int) : Prop := ∀ x ∈ l, 0 ≤ x ∧ x < 256
theorem Byt.nil : Byt [] := fun _ h => by cases h
theorem Byt.cons {c : Int} {l : List Int} (h0 : 0 ≤ c) (h1 : c < 256) (h : Byt l) : Byt (c :: l) := by
  intro x hx
  rcases List.mem_cons.1 hx with rfl | hx
  · exact ⟨h0, h1⟩
  · exact h x hx
theorem Byt.append {l r : List Int} (h : Byt l) (g : Byt r) : Byt (l ++ r) := fun x hx => (List.mem_append.1 hx).elim (h x) (g x)
theorem Byt.drop {l : List Int} (h : Byt l) (n : Nat) : Byt (l.drop n) := fun x hx => h x (List.mem_of_mem_drop hx)
theorem Byt.take {l : List Int} (h : Byt l) (n : Nat) : Byt (l.take n) := fun x hx => h x (List.mem_of_mem_take hx)
theorem Byt.at_ {l : List Int} (h : Byt l) (i : Nat) (hi : i < l.length) : 0 ≤ l[i] ∧ l[i] < 256 := h _ (List.getElem_mem hi)
theorem Byt.zeros (n : Nat) : Byt (List.replicate n 0) := fun y hy => by rw [List.eq_of_mem_replicate hy]; decide
theorem byt_u8 {l : List Int} (h : ∀ x ∈ l, (Lit.int .u8 x).wf = true) : Byt l := by
  intro x hx
  have := h x hx
  simp [Lit.wf, IntKind.min, IntKind.max, IntKind.signed, IntKind.bits] at this
  omega
theorem same_l0 (x y : List Int) (hl : x.length = y.length) (hlen : x.length ≤ 281474976710656) : ∀ (n i : Nat), n + i = x.length → Ev (fun k => notaryref01_Same.l0 k x y (i : Int)) (decide (x.drop i = y.drop i)) := by
  intro n
  induction n with
  | zero =>
    intro i hi
    rw [List.drop_eq_nil_of_le (by omega), List.drop_eq_nil_of_le (by omega)]
    refine Ev.step (f := fun _ => some true) (fun k => ?_) (Ev.now _)
    simp only [notaryref01_Same.l0]
    rw [if_neg (by omega)]
  | succ n ih =>
    intro i hi
    have h1 : i < x.length := by omega
    have h2 : i < y.length := by omega
    have r1 := rd_at x i (by omega)
    have r2 := rd_at y i (by omega)
    rw [List.drop_eq_getElem_cons h1, List.drop_eq_getElem_cons h2]
    by_cases e : x[i] = y[i]
    · refine Ev.step (f := fun k => notaryref01_Same.l0 k x y ((i + 1 : Nat) : Int)) (fun k => ?_) ?_
      · simp only [notaryref01_Same.l0]
        rw [if_pos (by omega), if_pos (by omega), if_pos (by omega), r1, r2, if_pos e, w64 _ (by omega) (by omega)]; rfl
      · have := ih (i + 1) (by omega)
        simp only [List.cons.injEq, e, true_and]
        exact this
    · refine Ev.step (f := fun _ => some false) (fun k => ?_) ?_
      · simp only [notaryref01_Same.l0]
        rw [if_pos (by omega), if_pos (by omega), if_pos (by omega), r1, r2, if_neg e]
      · have : decide (x[i] :: x.drop (i + 1) = y[i] :: y.drop (i + 1)) = false := by simp only [List.cons.injEq, e, false_and, decide_false]
        rw [this]; exact Ev.now _
theorem same_ev (x y : List Int) (hlen : x.length ≤ 281474976710656) : Ev (fun k => notaryref01_Same.f k x y) (decide (x = y)) := by
  by_cases h : x.length = y.length
  · refine Ev.congr (f := fun k => notaryref01_Same.l0 k x y 0) (fun k => by simp [notaryref01_Same.f, h]) ?_
    have := same_l0 x y h hlen x.length 0 (by omega)
    simpa using this
  · have : decide (x = y) = false := by simp; intro e; exact h (by rw [e])
    rw [this]
    refine Ev.congr (f := fun _ => some false) (fun k => by simp only [notaryref01_Same.f]; rw [if_neg (by omega)]) (Ev.now _)
theorem same_self (x : List Int) (hlen : x.length ≤ 281474976710656) : Ev (fun k => notaryref01_Same.f k x x) true := by
  have := same_ev x x hlen
  rwa [decide_eq_true rfl] at this
theorem nat_xor_zero (a b : Nat) : a ^^^ b = 0 ↔ a = b := by
  constructor
  · intro h
    have : (a ^^^ b) ^^^ b = a := by rw [Nat.xor_assoc, Nat.xor_self, Nat.xor_zero]
    rw [h, Nat.zero_xor] at this
    exact this.symm
  · intro h; rw [h, Nat.xor_self]
/-- one more byte: what is unlike so far -/
theorem or_xor (u a b : Int) (hu0 : 0 ≤ u) (hu1 : u < 256) (ha0 : 0 ≤ a) (ha1 : a < 256) (hb0 : 0 ≤ b) (hb1 : b < 256) :
    ∃ v, bits .or .u8 u (bits .xor .u8 a b) = v ∧ 0 ≤ v ∧ v < 256 ∧ (v = 0 ↔ u = 0 ∧ a = b) := by
  obtain ⟨u, rfl⟩ := Int.eq_ofNat_of_zero_le hu0
  obtain ⟨a, rfl⟩ := Int.eq_ofNat_of_zero_le ha0
  obtain ⟨b, rfl⟩ := Int.eq_ofNat_of_zero_le hb0
  have hx : a ^^^ b < 2 ^ 8 := Nat.xor_lt_two_pow (by omega) (by omega)
  rw [u8_xor_nat a b (by omega) (by omega), u8_or_nat u _ (by omega) (by omega)]
  have ho : u ||| (a ^^^ b) < 2 ^ 8 := Nat.or_lt_two_pow (by omega) hx
  refine ⟨_, rfl, by omega, by omega, ?_⟩
  rw [show (((u ||| (a ^^^ b) : Nat) : Int) = 0) ↔ (u ||| (a ^^^ b)) = 0 by omega, Nat.or_eq_zero_iff, nat_xor_zero]
  omega
theorem hsame_l0 (x y : List Int) (hl : x.length = y.length) (hlen : x.length ≤ 281474976710656) (hx : Byt x) (hy : Byt y) : ∀ (n i : Nat) (u : Int), n + i = x.length → 0 ≤ u → u < 256 →
    Ev (fun k => hmac_Same.l0 k x y u (x.length : Int) (i : Int)) (decide (u = 0 ∧ x.drop i = y.drop i)) := by
  intro n
  induction n with
  | zero =>
    intro i u hi h0 h1
    rw [List.drop_eq_nil_of_le (by omega), List.drop_eq_nil_of_le (by omega)]
    refine Ev.step (f := fun _ => some (u == 0)) (fun k => ?_) ?_
    · simp only [hmac_Same.l0]; rw [if_neg (by omega)]
    · simp only [and_true]
      exact Ev.now _
  | succ n ih =>
    intro i u hi h0 h1
    have h1x : i < x.length := by omega
    have h2y : i < y.length := by omega
    have r1 := rd_at x i (by omega)
    have r2 := rd_at y i (by omega)
    have bx := hx.at_ i h1x
    have by' := hy.at_ i h2y
    rw [List.drop_eq_getElem_cons h1x, List.drop_eq_getElem_cons h2y]
    obtain ⟨v, hv, v0, v1, hv2⟩ := or_xor u x[i] y[i] h0 h1 bx.1 bx.2 by'.1 by'.2
    have := ih (i + 1) v (by omega) v0 v1
    rw [show decide (u = 0 ∧ x[i] :: x.drop (i + 1) = y[i] :: y.drop (i + 1)) = decide (v = 0 ∧ x.drop (i + 1) = y.drop (i + 1)) by
      rw [decide_eq_decide, hv2, List.cons.injEq]; constructor <;> (rintro ⟨a, b⟩; simp_all)]
    refine Ev.step (fun k => ?_) this
    simp only [hmac_Same.l0]
    rw [if_pos (by omega), if_pos (by omega), if_pos (by omega), if_pos (by omega), r1, r2, hv, w64 _ (by omega) (by omega)]
    rfl
theorem hsame_ev (x y : List Int) (hlen : x.length ≤ 281474976710656) (hx : Byt x) (hy : Byt y) : Ev (fun k => hmac_Same.f k x y) (decide (x = y)) := by
  by_cases h : x.length = y.length
  · refine Ev.congr (f := fun k => hmac_Same.l0 k x y 0 (x.length : Int) 0) (fun k => by simp [hmac_Same.f, h]) ?_
    have := hsame_l0 x y h hlen hx hy x.length 0 0 (by omega) (by decide) (by decide)
    simpa using this
  · have : decide (x = y) = false := by simp; intro e; exact h (by rw [e])
    rw [this]
    refine Ev.congr (f := fun _ => some false) (fun k => by simp only [hmac_Same.f]; rw [if_neg (by omega)]) (Ev.now _)
end Go.Proofs.Ytogjnipojakfjaa.LSame
