/- What the functions of the package varint, and those of its reference, answer: the lists of SVarint. -/
import Derived.Test.YtiamcmjdoobaeaaSVarint
import Derived.Test.YtiamcmjdoobaeaaLStub
import Derived.Test.YtiamcmjdoobaeaaPCex1
import Derived.Test.YtiamcmjdoobaeaaPCex5
import Derived.Test.YtiamcmjdoobaeaaPCex12
namespace Go.Proofs.Ytiamcmjdoobaeaa.LVarint
open Go.RowKit Go.Proofs.Ytiamcmjdoobaeaa.SVarint Go.Proofs.Ytiamcmjdoobaeaa.PCe Go.Proofs.YtiamcmjdoobaeaaW.PrintWords Go.Proofs.YtiamcmjdoobaeaaW.PrintLast Go.Proofs.YtiamcmjdoobaeaaW.PrintMore

theorem u64w (n : Int) : IntKind.u64.wrap n = n % 18446744073709551616 := by simp [IntKind.wrap, IntKind.bits, IntKind.signed]
theorem w64 (n : Int) (h0 : -9223372036854775808 ≤ n) (h1 : n < 9223372036854775808) : wrap64 n = n := by unfold wrap64; omega
theorem and127_u64 (x : Int) (h0 : 0 ≤ x) (h1 : x < 18446744073709551616) : bits .and .u64 x 127 = x % 128 := by
  rw [u64_and x _ h0 h1 (by decide) (by decide)]
  obtain ⟨a, rfl⟩ := Int.eq_ofNat_of_zero_le h0
  have := nat_mask7 a
  simp only [Int.toNat_natCast, Int.reduceToNat]
  rw [this]; omega
theorem and127_u8 (x : Int) (h0 : 0 ≤ x) (h1 : x < 256) : bits .and .u8 x 127 = x % 128 := by
  rw [u8_and x _ h0 h1 (by decide) (by decide)]
  obtain ⟨a, rfl⟩ := Int.eq_ofNat_of_zero_le h0
  have := nat_mask7 a
  simp only [Int.toNat_natCast, Int.reduceToNat]
  rw [this]; omega
theorem or128_u8 (x : Int) (h0 : 0 ≤ x) (h1 : x < 128) : bits .or .u8 x 128 = x + 128 := by
  rw [u8_or x _ h0 (by omega) (by decide) (by decide)]
  obtain ⟨a, rfl⟩ := Int.eq_ofNat_of_zero_le h0
  have h := nat_join 7 128 a (by decide) (by omega)
  simp only [Int.toNat_natCast, Int.reduceToNat]
  rw [Nat.or_comm, h]; omega
theorem or_join_u64 (i : Nat) (x y : Int) (hx0 : 0 ≤ x) (hx : x < 2 ^ i) (hy0 : 0 ≤ y) (hy : x + y * 2 ^ i < 18446744073709551616) : bits .or .u64 x (y * 2 ^ i) = x + y * 2 ^ i := by
  obtain ⟨a, rfl⟩ := Int.eq_ofNat_of_zero_le hx0
  obtain ⟨b, rfl⟩ := Int.eq_ofNat_of_zero_le hy0
  have hp : (0 : Int) ≤ (b : Int) * 2 ^ i := Int.mul_nonneg hy0 (Int.le_of_lt (Int.pow_pos (by decide)))
  rw [u64_or _ _ hx0 (by omega) hp (by omega)]
  have ec : (b : Int) * 2 ^ i = ((b * 2 ^ i : Nat) : Int) := by simp
  have ha : a < 2 ^ i := by exact_mod_cast hx
  rw [ec, Int.toNat_natCast, Int.toNat_natCast, Nat.or_comm, nat_join i _ a (Nat.mul_mod_left _ _) ha]
  omega

theorem bytes_l0 : ∀ (n i : Nat) (v : Int) (out : List Int), n + i = 9 → 0 ≤ v → v < 2 * 128 ^ n → v < 18446744073709551616 → out.length + n ≤ 1000 → Ev (fun k => varint_Bytes.l0 k v out (i : Int)) (out ++ encN n v) := by
  intro n
  induction n with
  | zero =>
    intro i v out hn h0 h1 h2 hl
    refine Ev.step (f := fun _ => some (out ++ encN 0 v)) (fun k => ?_) (Ev.now _)
    simp only [varint_Bytes.l0, encN]
    rw [if_pos (by omega), if_pos (by simp at h1; omega), if_pos (by omega)]
  | succ n ih =>
    intro i v out hn h0 h1 h2 hl
    by_cases h : v < 128
    · refine Ev.step (f := fun _ => some (out ++ encN (n + 1) v)) (fun k => ?_) (Ev.now _)
      simp only [varint_Bytes.l0, encN]
      rw [if_pos (by omega), if_pos h, if_pos (by omega), if_pos h]
    · have hp := pow_succ' n
      refine Ev.step (f := fun k => varint_Bytes.l0 k (v / 128) (out ++ [v % 128 + 128]) ((i + 1 : Nat) : Int)) (fun k => ?_) ?_
      · simp only [varint_Bytes.l0]
        rw [if_pos (by omega), if_neg h, if_pos (by omega), and127_u64 v h0 h2, show v % 128 % 256 = v % 128 by omega, or128_u8 _ (by omega) (by omega), w64 _ (by omega) (by omega)]
        rfl
      · have := ih (i + 1) (v / 128) (out ++ [v % 128 + 128]) (by omega) (by omega) (by omega) (by omega) (by simp; omega)
        simpa [encN, h] using this
theorem bytes_ev (v : Int) (h0 : 0 ≤ v) (h1 : v < 18446744073709551616) : Ev (fun k => varint_Bytes.f k v) (enc v) := by
  have := bytes_l0 9 0 v [] rfl h0 (by simpa using h1) h1 (by simp)
  simpa [varint_Bytes.f, enc] using this

/-- What is answered for what 'dec' tells: the number, the place behind it, what is wrong. -/
def got (at_ : Int) (d : Int × Nat × Int) : Int × Int × Int := if d.2.2 = 0 then (d.1, at_ + d.2.1, 0) else (0, 0, d.2.2)

theorem rd_drop (l : List Int) (a i : Nat) (h : a + i < l.length) : rd l ((a : Int) + i) = l[a + i] := by
  have e : ((a : Int) + i).toNat = a + i := by omega
  unfold rd
  rw [e, List.getD_eq_getElem?_getD, List.getElem?_eq_getElem h]; rfl
theorem pow128 (i : Nat) : (2 : Int) ^ (7 * i) = 128 ^ i := by rw [Int.pow_mul]; rfl
theorem pow128_9 (i : Nat) (h : i ≤ 9) : (128 : Int) ^ i ≤ 9223372036854775808 := by
  have : (128 : Nat) ^ i ≤ 128 ^ 9 := Nat.pow_le_pow_right (by decide) h
  have e : ((128 ^ i : Nat) : Int) ≤ ((128 ^ 9 : Nat) : Int) := by exact_mod_cast this
  simpa using e
theorem mul_bound (c p b : Int) (hp : 0 ≤ p) (hc : c ≤ b) : c * p ≤ b * p := Int.mul_le_mul_of_nonneg_right hc hp

theorem get_l0 (l : List Int) (a : Nat) (ha : a ≤ l.length) (hlen : l.length ≤ 281474976710656) (hb : Byt l) : ∀ (n i : Nat) (v : Int), n + i = 9 → a + i ≤ l.length → 0 ≤ v → v < 128 ^ i →
    Ev (fun k => varint_Get.l0 k l (a : Int) v (i : Int)) (got a (dec (l.drop (a + i)) i v)) := by
  intro n
  induction n with
  | zero | succ n ih =>
    intro i v hn hi h0 h1
    have hw : wrap64 ((l.length : Int) - a) = (l.length : Int) - a := w64 _ (by omega) (by omega)
    by_cases hs : a + i < l.length
    · have hc := hb.at_ (a + i) hs
      have hr := rd_drop l a i hs
      have hwi : wrap64 ((a : Int) + i) = (a : Int) + i := w64 _ (by omega) (by omega)
      rw [List.drop_eq_getElem_cons hs]
      generalize hcd : l[a + i] = c at *
      have hpos := pow_pos' i
      have hp9 := pow128_9 i (by omega)
      simp only [dec]
      by_cases h9 : i = 9 ∧ c ≠ 1
      · rw [if_pos h9]
        refine Ev.step (f := fun k => varint_Get.j2 k l a v i c i true) (fun k => ?_) (Ev.step (f := fun _ => some (0, 0, 2)) (fun k => by simp [varint_Get.j2]) (Ev.now _))
        simp only [varint_Get.l0]
        rw [hw, hwi, if_pos (by omega), if_neg (by omega), if_pos (by omega), if_pos (by omega), if_pos (by omega), hr, show (c != 1) = true by simpa using h9.2]
      · rw [if_neg h9]
        have e1 : Ev (fun k => varint_Get.j2 k l a v i c i false) (got a (if 0 < i ∧ c = 0 then (0, 0, 2) else if c < 128 then (v + c * 128 ^ i, i + 1, 0) else dec (l.drop (a + i + 1)) (i + 1) (v + (c - 128) * 128 ^ i))) := by
          by_cases hz : 0 < i ∧ c = 0
          · rw [if_pos hz]
            refine Ev.step (f := fun k => varint_Get.j3 k l a v i c i true) (fun k => ?_) (Ev.step (f := fun _ => some (0, 0, 2)) (fun k => by simp [varint_Get.j3]) (Ev.now _))
            simp only [varint_Get.j2]
            rw [if_neg (by decide), if_pos (by omega), show (c == 0) = true by simpa using hz.2]
          · rw [if_neg hz]
            have e2 : Ev (fun k => varint_Get.j3 k l a v i c i false) (got a (if c < 128 then (v + c * 128 ^ i, i + 1, 0) else dec (l.drop (a + i + 1)) (i + 1) (v + (c - 128) * 128 ^ i))) := by
              have hw7 : wrap64 (7 * (i : Int)) = ((7 * i : Nat) : Int) := by rw [w64 _ (by omega) (by omega)]; omega
              have hm : c % 128 ≤ 127 := by omega
              have hm2 := mul_bound (c % 128) (128 ^ i) 127 (by omega) hm
              have hm3 : 0 ≤ c % 128 * 128 ^ i := Int.mul_nonneg (by omega) (by omega)
              have hbig : v + c % 128 * 128 ^ i < 18446744073709551616 := by
                by_cases hi9 : i = 9
                · have hc1 : c = 1 := by
                    by_cases c1 : c = 1
                    · exact c1
                    · exact absurd ⟨hi9, c1⟩ h9
                  subst hc1
                  simp only [show (1 : Int) % 128 = 1 by decide, Int.one_mul]; omega
                · have := pow128_9 (i + 1) (by omega)
                  rw [pow_succ'] at this; omega
              have hsh : shl .u64 (IntKind.u64.wrap (bits .and .u8 c 127)) (wrap64 (7 * (i : Int))) = c % 128 * 2 ^ (7 * i) := by
                rw [and127_u8 c hc.1 hc.2, u64w, hw7]
                unfold shl
                rw [Int.toNat_natCast, Nat.min_eq_left (by simp [IntKind.bits]; omega), u64w, show c % 128 % 18446744073709551616 = c % 128 by omega, pow128]
                omega
              have hor : bits .or .u64 v (c % 128 * 2 ^ (7 * i)) = v + c % 128 * 128 ^ i := by
                rw [or_join_u64 (7 * i) v (c % 128) h0 (by rw [pow128]; exact h1) (by omega) (by rw [pow128]; exact hbig), pow128]
              by_cases h8 : c < 128
              · rw [if_pos h8]
                refine Ev.step (f := fun _ => some (v + c * 128 ^ i, (a : Int) + (i + 1 : Nat), 0)) (fun k => ?_) (Ev.now _)
                simp only [varint_Get.j3]
                rw [if_neg (by decide), hsh, hor, hwi, w64 ((a : Int) + i + 1) (by omega) (by omega), hw7, if_pos (by omega), if_pos h8, show c % 128 = c by omega]
                congr 2
              · rw [if_neg h8]
                first
                | exact absurd (show i = 9 ∧ c ≠ 1 by omega) h9
                | (refine Ev.step (f := fun k => varint_Get.l0 k l a (v + (c - 128) * 128 ^ i) ((i + 1 : Nat) : Int)) (fun k => ?_) ?_
                   · simp only [varint_Get.j3]
                     rw [if_neg (by decide), hsh, hor, w64 ((i : Int) + 1) (by omega) (by omega), hw7, if_pos (by omega), if_neg h8, show c % 128 = c - 128 by omega]
                     rfl
                   · have hv : 0 ≤ v + (c - 128) * 128 ^ i := by rw [show c - 128 = c % 128 by omega]; omega
                     exact ih (i + 1) _ (by omega) (by omega) hv (by rw [pow_succ', show c - 128 = c % 128 by omega]; omega))
            refine Ev.step (fun k => ?_) e2
            simp only [varint_Get.j2]
            rw [if_neg (by decide)]
            by_cases hi0 : i = 0
            · rw [if_neg (by omega)]
            · rw [if_pos (by omega), show (c == 0) = false by rw [beq_eq_false_iff_ne]; intro hh; exact hz ⟨by omega, hh⟩]
        refine Ev.step (fun k => ?_) e1
        simp only [varint_Get.l0]
        rw [hw, hwi, if_pos (by omega), if_neg (by omega), if_pos (by omega), if_pos (by omega), hr]
        by_cases hi9 : i = 9
        · rw [if_pos (by omega)]
          have hc1 : c = 1 := by
            by_cases c1 : c = 1
            · exact c1
            · exact absurd ⟨hi9, c1⟩ h9
          rw [hc1]; rfl
        · rw [if_neg (by omega)]
    · have : l.drop (a + i) = [] := List.drop_eq_nil_of_le (by omega)
      rw [this]
      refine Ev.step (f := fun _ => some (0, 0, 1)) (fun k => ?_) (Ev.now _)
      simp only [varint_Get.l0]
      rw [hw, if_pos (by omega), if_pos (by omega)]
/-- What is read of a list at a place. -/
def getS (l : List Int) (a : Int) : Int × Int × Int := if a < 0 ∨ a > l.length then (0, 0, 13) else got a (dec (l.drop a.toNat) 0 0)
theorem get_ev (l : List Int) (a : Int) (hlen : l.length ≤ 281474976710656) (hb : Byt l) : Ev (fun k => varint_Get.f k l a) (getS l a) := by
  unfold getS
  by_cases h0 : a < 0
  · rw [if_pos (.inl h0)]
    refine Ev.congr (f := fun k => varint_Get.j0 k l a true) (fun k => by simp [varint_Get.f, h0]) (Ev.step (f := fun _ => some (0, 0, 13)) (fun k => by simp [varint_Get.j0]) (Ev.now _))
  · by_cases h1 : a > l.length
    · rw [if_pos (.inr h1)]
      refine Ev.congr (f := fun k => varint_Get.j0 k l a true) (fun k => by simp only [varint_Get.f]; rw [if_neg h0, show decide (a > (l.length : Int)) = true from decide_eq_true h1]) (Ev.step (f := fun _ => some (0, 0, 13)) (fun k => by simp [varint_Get.j0]) (Ev.now _))
    · rw [if_neg (by omega)]
      obtain ⟨n, rfl⟩ := Int.eq_ofNat_of_zero_le (by omega : 0 ≤ a)
      refine Ev.congr (f := fun k => varint_Get.j0 k l n false) (fun k => by simp only [varint_Get.f]; rw [if_neg h0, show decide ((n : Int) > (l.length : Int)) = false from decide_eq_false h1]) ?_
      refine Ev.step (f := fun k => varint_Get.l0 k l n 0 0) (fun k => by simp [varint_Get.j0]) ?_
      have := get_l0 l n (by omega) hlen hb 9 0 0 rfl (by omega) (by omega) (by simp)
      simpa using this
theorem rbytes_l0 : ∀ (n i : Nat) (v : Int) (out : List Int), n + i = 9 → 0 ≤ v → v < 2 * 128 ^ n → v < 18446744073709551616 → out.length + n ≤ 1000 → Ev (fun k => notaryref01_Bytes.l0 k v out) (out ++ encN n v) := by
  intro n
  induction n with
  | zero =>
    intro i v out hn h0 h1 h2 hl
    refine Ev.step (f := fun _ => some (out ++ encN 0 v)) (fun k => ?_) (Ev.now _)
    simp only [notaryref01_Bytes.l0, encN]
    rw [if_neg (by simp at h1; omega), if_pos (by omega)]
  | succ n ih =>
    intro i v out hn h0 h1 h2 hl
    by_cases h : v < 128
    · refine Ev.step (f := fun _ => some (out ++ encN (n + 1) v)) (fun k => ?_) (Ev.now _)
      simp only [notaryref01_Bytes.l0, encN]
      rw [if_neg (by omega), if_pos (by omega), if_pos h]
    · have hp := pow_succ' n
      refine Ev.step (f := fun k => notaryref01_Bytes.l0 k (v / 128) (out ++ [v % 128 + 128])) (fun k => ?_) ?_
      · simp only [notaryref01_Bytes.l0]
        rw [if_pos (by omega), if_pos (by omega), u64w, u64w, Int.tdiv_eq_ediv_of_nonneg h0, Int.tmod_eq_emod_of_nonneg h0, show v / 128 % 18446744073709551616 = v / 128 by omega, show (128 + v % 128) % 18446744073709551616 % 256 = v % 128 + 128 by omega]
      · have := ih (i + 1) (v / 128) (out ++ [v % 128 + 128]) (by omega) (by omega) (by omega) (by omega) (by simp; omega)
        simpa [encN, h] using this
theorem rbytes_ev (v : Int) (h0 : 0 ≤ v) (h1 : v < 18446744073709551616) : Ev (fun k => notaryref01_Bytes.f k v) (enc v) := by
  have := rbytes_l0 9 0 v [] rfl h0 (by simpa using h1) h1 (by simp)
  simpa [notaryref01_Bytes.f, enc] using this
theorem same_l0 (x y : List Int) (hl : x.length = y.length) (hlen : x.length ≤ 281474976710656) : ∀ (n i : Nat), n + i = x.length → Ev (fun k => notaryref01_Same.l0 k x y (i : Int)) (decide (x.drop i = y.drop i)) := by
  intro n
  induction n with
  | zero =>
    intro i hi
    rw [List.drop_eq_nil_of_le (by omega), List.drop_eq_nil_of_le (by omega)]
    refine Ev.step (f := fun _ => some true) (fun k => ?_) (Ev.now _)
    simp only [notaryref01_Same.l0]
    rw [if_neg (by omega)]
  | succ n ih =>
    intro i hi
    have h1 : i < x.length := by omega
    have h2 : i < y.length := by omega
    have r1 := rd_drop x 0 i (by omega)
    have r2 := rd_drop y 0 i (by omega)
    simp only [Int.natCast_zero, Int.zero_add, Nat.zero_add] at r1 r2
    rw [List.drop_eq_getElem_cons h1, List.drop_eq_getElem_cons h2]
    by_cases e : x[i] = y[i]
    · refine Ev.step (f := fun k => notaryref01_Same.l0 k x y ((i + 1 : Nat) : Int)) (fun k => ?_) ?_
      · simp only [notaryref01_Same.l0]
        rw [if_pos (by omega), if_pos (by omega), if_pos (by omega), r1, r2, if_pos e, w64 _ (by omega) (by omega)]; rfl
      · have := ih (i + 1) (by omega)
        simp only [List.cons.injEq, e, true_and]
        exact this
    · refine Ev.step (f := fun _ => some false) (fun k => ?_) ?_
      · simp only [notaryref01_Same.l0]
        rw [if_pos (by omega), if_pos (by omega), if_pos (by omega), r1, r2, if_neg e]
      · have : decide (x[i] :: x.drop (i + 1) = y[i] :: y.drop (i + 1)) = false := by simp only [List.cons.injEq, e, false_and, decide_false]
        rw [this]; exact Ev.now _
theorem same_ev (x y : List Int) (hlen : x.length ≤ 281474976710656) : Ev (fun k => notaryref01_Same.f k x y) (decide (x = y)) := by
  by_cases h : x.length = y.length
  · refine Ev.congr (f := fun k => notaryref01_Same.l0 k x y 0) (fun k => by simp [notaryref01_Same.f, h]) ?_
    have := same_l0 x y h hlen x.length 0 (by omega)
    simpa using this
  · have : decide (x = y) = false := by simp; intro e; exact h (by rw [e])
    rw [this]
    refine Ev.congr (f := fun _ => some false) (fun k => by simp only [notaryref01_Same.f]; rw [if_neg (by omega)]) (Ev.now _)
theorem rget_l0 (l : List Int) (a : Nat) (ha : a ≤ l.length) (hlen : l.length ≤ 281474976710656) (hb : Byt l) : ∀ (n i : Nat) (v : Int), n + i = 9 → a + i ≤ l.length → 0 ≤ v → v < 128 ^ i →
    Ev (fun k => notaryref01_Get.l0 k l (a : Int) v (128 ^ i) ((a : Int) + i)) (got a (dec (l.drop (a + i)) i v)) := by
  intro n
  induction n with
  | zero | succ n ih =>
    intro i v hn hi h0 h1
    have hw : wrap64 ((a : Int) + i - a) = (i : Int) := by rw [w64 _ (by omega) (by omega)]; omega
    by_cases hs : a + i < l.length
    · have hc := hb.at_ (a + i) hs
      have hr := rd_drop l a i hs
      rw [List.drop_eq_getElem_cons hs]
      generalize hcd : l[a + i] = c at *
      have hpos := pow_pos' i
      have hp9 := pow128_9 i (by omega)
      have q0 : (0 : Int) ≤ (a : Int) + i := by omega
      have q1 : (a : Int) + i < l.length := by omega
      simp only [dec]
      by_cases h9 : i = 9 ∧ c ≠ 1
      · rw [if_pos h9]
        refine Ev.step (f := fun k => notaryref01_Get.j2 k l a v (128 ^ i) ((a : Int) + i) true) (fun k => ?_) (Ev.step (f := fun _ => some (0, 0, 2)) (fun k => by simp [notaryref01_Get.j2]) (Ev.now _))
        simp only [notaryref01_Get.l0]
        rw [hw, if_pos (by omega), if_pos (by omega), if_pos (by omega), hr, if_neg h9.2]
      · rw [if_neg h9]
        by_cases hz : 0 < i ∧ c = 0
        · rw [if_pos hz]
          refine Ev.step (f := fun k => notaryref01_Get.j2 k l a v (128 ^ i) ((a : Int) + i) true) (fun k => ?_) (Ev.step (f := fun _ => some (0, 0, 2)) (fun k => by simp [notaryref01_Get.j2]) (Ev.now _))
          simp only [notaryref01_Get.l0]
          rw [hw, if_pos (by omega), hr, if_neg (by intro hh; exact h9 ⟨by omega, by omega⟩), if_pos (by omega), if_pos (by omega), show (c == 0) = true by simpa using hz.2]
        · rw [if_neg hz]
          have e2 : Ev (fun k => notaryref01_Get.j2 k l a v (128 ^ i) ((a : Int) + i) false) (got a (if c < 128 then (v + c * 128 ^ i, i + 1, 0) else dec (l.drop (a + i + 1)) (i + 1) (v + (c - 128) * 128 ^ i))) := by
            have hm : c % 128 ≤ 127 := by omega
            have hm2 := mul_bound (c % 128) (128 ^ i) 127 (by omega) hm
            have hm3 : 0 ≤ c % 128 * 128 ^ i := Int.mul_nonneg (by omega) (by omega)
            have hbig : v + c % 128 * 128 ^ i < 18446744073709551616 := by
              by_cases hi9 : i = 9
              · have hc1 : c = 1 := by
                  by_cases c1 : c = 1
                  · exact c1
                  · exact absurd ⟨hi9, c1⟩ h9
                subst hc1
                simp only [show (1 : Int) % 128 = 1 by decide, Int.one_mul]; omega
              · have := pow128_9 (i + 1) (by omega)
                rw [pow_succ'] at this; omega
            have hv : IntKind.u64.wrap (v + (IntKind.u64.wrap ((IntKind.u64.wrap (Int.tmod c 128)) * 128 ^ i))) = v + c % 128 * 128 ^ i := by
              rw [u64w, u64w, u64w, Int.tmod_eq_emod_of_nonneg hc.1, show c % 128 % 18446744073709551616 = c % 128 by omega, Int.emod_eq_of_lt hm3 (by omega), Int.emod_eq_of_lt (by omega) hbig]
            have hw1 : wrap64 ((a : Int) + i + 1) = (a : Int) + (i + 1 : Nat) := by rw [w64 _ (by omega) (by omega)]; omega
            by_cases h8 : c < 128
            · have hcm : c % 128 = c := by clear hv hw1; omega
              rw [if_pos h8]
              refine Ev.step (f := fun _ => some (v + c * 128 ^ i, (a : Int) + (i + 1 : Nat), 0)) (fun k => ?_) (Ev.now _)
              simp only [notaryref01_Get.j2]
              rw [if_neg (by decide), hr, hv, hw1, if_pos q0, if_pos q1, if_pos h8, hcm]
            · have hcm : c % 128 = c - 128 := by clear hv hw1; omega
              rw [if_neg h8]
              first
              | (clear hv hw1; exact absurd (show i = 9 ∧ c ≠ 1 by omega) h9)
              | (refine Ev.step (f := fun k => notaryref01_Get.l0 k l a (v + (c - 128) * 128 ^ i) (128 ^ (i + 1)) ((a : Int) + (i + 1 : Nat))) (fun k => ?_) ?_
                 · simp only [notaryref01_Get.j2]
                   have hu : IntKind.u64.wrap (128 ^ i * 128) = 128 ^ (i + 1) := by
                     rw [u64w, ← Int.pow_succ]
                     have := pow128_9 (i + 1) (by omega)
                     have h2 := pow_pos' (i + 1)
                     exact Int.emod_eq_of_lt (by omega) (by omega)
                   rw [if_neg (by decide), hr, hv, hw1, hu, if_pos q0, if_pos q1, if_neg h8, hcm]
                 · clear hv hw1
                   have hv : 0 ≤ v + (c - 128) * 128 ^ i := by rw [← hcm]; omega
                   exact ih (i + 1) _ (by omega) (by omega) hv (by rw [pow_succ', ← hcm]; omega))
          refine Ev.step (fun k => ?_) e2
          simp only [notaryref01_Get.l0]
          rw [hw, if_pos (by omega), hr]
          by_cases hi9 : i = 9
          · have hc1 : c = 1 := by
              by_cases c1 : c = 1
              · exact c1
              · exact absurd ⟨hi9, c1⟩ h9
            rw [if_pos (by omega), if_pos (by omega), if_pos hc1, if_pos (by omega), hc1]; rfl
          · rw [if_neg (by omega)]
            by_cases hi0 : i = 0
            · rw [if_neg (by omega)]
            · rw [if_pos (by omega), if_pos (by omega), show (c == 0) = false by rw [beq_eq_false_iff_ne]; intro hh; exact hz ⟨by omega, hh⟩]
    · have : l.drop (a + i) = [] := List.drop_eq_nil_of_le (by omega)
      rw [this]
      refine Ev.step (f := fun _ => some (0, 0, 1)) (fun k => ?_) (Ev.now _)
      simp only [notaryref01_Get.l0]
      rw [if_neg (by omega)]
theorem rget_ev (l : List Int) (a : Int) (hlen : l.length ≤ 281474976710656) (hb : Byt l) : Ev (fun k => notaryref01_Get.f k l a) (getS l a) := by
  unfold getS
  by_cases h0 : a < 0
  · rw [if_pos (.inl h0)]
    refine Ev.congr (f := fun k => notaryref01_Get.j0 k l a true) (fun k => by simp [notaryref01_Get.f, h0]) (Ev.step (f := fun _ => some (0, 0, 13)) (fun k => by simp [notaryref01_Get.j0]) (Ev.now _))
  · by_cases h1 : a > l.length
    · rw [if_pos (.inr h1)]
      refine Ev.congr (f := fun k => notaryref01_Get.j0 k l a true) (fun k => by simp only [notaryref01_Get.f]; rw [if_neg h0, show decide (a > (l.length : Int)) = true from decide_eq_true h1]) (Ev.step (f := fun _ => some (0, 0, 13)) (fun k => by simp [notaryref01_Get.j0]) (Ev.now _))
    · rw [if_neg (by omega)]
      obtain ⟨n, rfl⟩ := Int.eq_ofNat_of_zero_le (by omega : 0 ≤ a)
      refine Ev.congr (f := fun k => notaryref01_Get.j0 k l n false) (fun k => by simp only [notaryref01_Get.f]; rw [if_neg h0, show decide ((n : Int) > (l.length : Int)) = false from decide_eq_false h1]) ?_
      refine Ev.step (f := fun k => notaryref01_Get.l0 k l n 0 1 n) (fun k => by simp [notaryref01_Get.j0]) ?_
      have := rget_l0 l n (by omega) hlen hb 9 0 0 rfl (by omega) (by omega) (by simp)
      simpa using this
end Go.Proofs.Ytiamcmjdoobaeaa.LVarint
