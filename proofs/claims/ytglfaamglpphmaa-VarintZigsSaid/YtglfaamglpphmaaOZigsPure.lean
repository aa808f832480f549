/- The law VarintZigs, over numbers alone: what the four functions answer makes it true of each pair of numbers of their kinds. -/
import Derived.Test.YtglfaamglpphmaaOZigs
import Derived.Laws.BitsAllLaws
namespace Go.Proofs.Ytglfaamglpphmaa.Pure
open Go.RowKit Go.Proofs.Ytglfaamglpphmaa.OVarintZigs Go.Proofs.YtglfaamglpphmaaW.PrintWords Go.Proofs.YtglfaamglpphmaaW.PrintLast

theorem u64w (n : Int) : IntKind.u64.wrap n = n % 18446744073709551616 := by simp [IntKind.wrap, IntKind.bits, IntKind.signed]
theorem i64w (n : Int) : IntKind.i64.wrap n = (n + 9223372036854775808) % 18446744073709551616 - 9223372036854775808 := IntKind.wrap_i64 n

theorem xor_zero_u64 (x : Int) (h0 : 0 ≤ x) (h1 : x < 18446744073709551616) : bits .xor .u64 x 0 = x := by
  rw [u64_xor x 0 h0 h1 (by decide) (by decide)]
  simp; omega
theorem nat_xor_ones (a : Nat) (ha : a < 18446744073709551616) : a ^^^ 18446744073709551615 = 18446744073709551615 - a := by
  have h := congrArg BitVec.toNat (BitVec.xor_allOnes (x := BitVec.ofNat 64 a))
  simp only [BitVec.toNat_xor, BitVec.toNat_not, BitVec.toNat_ofNat, BitVec.toNat_allOnes] at h
  rw [Nat.mod_eq_of_lt (by simpa using ha)] at h
  simpa using h
theorem xor_ones_u64 (x : Int) (h0 : 0 ≤ x) (h1 : x < 18446744073709551616) : bits .xor .u64 x 18446744073709551615 = 18446744073709551615 - x := by
  rw [u64_xor x _ h0 h1 (by decide) (by decide)]
  obtain ⟨a, rfl⟩ := Int.eq_ofNat_of_zero_le h0
  have := nat_xor_ones a (by omega)
  simp only [Int.toNat_natCast, Int.reduceToNat]
  rw [this]; omega
theorem zig_pos (a : Int) (h0 : 0 ≤ a) (h1 : a < 9223372036854775808) : varint_Zig.f a = some (2 * a) := by
  unfold varint_Zig.f
  rw [show a / 9223372036854775808 = 0 by omega, u64w, u64w, u64w]
  rw [show (a % 18446744073709551616 * 2) % 18446744073709551616 = 2 * a by omega, show (0 : Int) % 18446744073709551616 = 0 by decide]
  rw [xor_zero_u64 _ (by omega) (by omega)]
theorem zig_neg (a : Int) (h0 : a < 0) (h1 : -9223372036854775808 ≤ a) : varint_Zig.f a = some (-2 * a - 1) := by
  unfold varint_Zig.f
  rw [show a / 9223372036854775808 = -1 by omega, u64w, u64w, u64w]
  rw [show (a % 18446744073709551616 * 2) % 18446744073709551616 = 18446744073709551616 + 2 * a by omega, show (-1 : Int) % 18446744073709551616 = 18446744073709551615 by decide]
  rw [xor_ones_u64 _ (by omega) (by omega)]
  congr 1; omega
theorem and_one_u64 (x : Int) (h0 : 0 ≤ x) (h1 : x < 18446744073709551616) : bits .and .u64 x 1 = x % 2 := by
  rw [u64_and x _ h0 h1 (by decide) (by decide)]
  obtain ⟨a, rfl⟩ := Int.eq_ofNat_of_zero_le h0
  have := nat_mask1 a
  simp only [Int.toNat_natCast, Int.reduceToNat]
  rw [this]; omega
theorem xor_i64 (x y : Int) : bits .xor .i64 x y = IntKind.i64.wrap (((BitVec.ofInt 64 x).toNat ^^^ (BitVec.ofInt 64 y).toNat : Nat) : Int) := by
  rw [← BitVec.toNat_xor]; rfl
theorem xor_zero_i64 (x : Int) (h0 : 0 ≤ x) (h1 : x < 9223372036854775808) : bits .xor .i64 x 0 = x := by
  obtain ⟨a, rfl⟩ := Int.eq_ofNat_of_zero_le h0
  have e : (BitVec.ofInt 64 0).toNat = 0 := by decide
  rw [xor_i64, ofInt_u64 a (by omega), e, Nat.xor_zero, i64w]
  omega
theorem xor_ones_i64 (x : Int) (h0 : 0 ≤ x) (h1 : x < 9223372036854775808) : bits .xor .i64 x (-1) = -1 - x := by
  obtain ⟨a, rfl⟩ := Int.eq_ofNat_of_zero_le h0
  have e : (BitVec.ofInt 64 (-1)).toNat = 18446744073709551615 := by decide
  rw [xor_i64, ofInt_u64 a (by omega), e, nat_xor_ones a (by omega), i64w]
  omega
theorem zag_even (v : Int) (h0 : 0 ≤ v) (h1 : v < 18446744073709551616) (h : v % 2 = 0) : varint_Zag.f v = some (v / 2) := by
  unfold varint_Zag.f
  rw [and_one_u64 v h0 h1, h]
  rw [show wrap64 (v / 2) = v / 2 by unfold wrap64; omega, show wrap64 (-(wrap64 0)) = 0 by unfold wrap64; omega, xor_zero_i64 _ (by omega) (by omega)]
theorem zag_odd (v : Int) (h0 : 0 ≤ v) (h1 : v < 18446744073709551616) (h : v % 2 = 1) : varint_Zag.f v = some (-1 - v / 2) := by
  unfold varint_Zag.f
  rw [and_one_u64 v h0 h1, h]
  rw [show wrap64 (v / 2) = v / 2 by unfold wrap64; omega, show wrap64 (-(wrap64 1)) = -1 by unfold wrap64; omega, xor_ones_i64 _ (by omega) (by omega)]
theorem rzig_pos (a : Int) (h0 : 0 ≤ a) (h1 : a < 9223372036854775808) : notaryref01_Zig.f a = some (2 * a) := by
  unfold notaryref01_Zig.f
  rw [if_pos (by omega), u64w, u64w]; congr 1; omega
theorem rzig_neg (a : Int) (h0 : a < 0) (h1 : -9223372036854775808 ≤ a) : notaryref01_Zig.f a = some (-2 * a - 1) := by
  unfold notaryref01_Zig.f
  rw [if_neg (by omega), u64w, u64w, u64w]
  rw [show wrap64 (a + 1) = a + 1 by unfold wrap64; omega, show wrap64 (-(a + 1)) = -(a + 1) by unfold wrap64; omega]
  congr 1; omega
theorem tdiv2 (v : Int) (h0 : 0 ≤ v) : Int.tdiv v 2 = v / 2 := Int.tdiv_eq_ediv_of_nonneg h0
theorem tmod2 (v : Int) (h0 : 0 ≤ v) : Int.tmod v 2 = v % 2 := Int.tmod_eq_emod_of_nonneg h0
theorem rzag_even (v : Int) (h0 : 0 ≤ v) (h1 : v < 18446744073709551616) (h : v % 2 = 0) : notaryref01_Zag.f v = some (v / 2) := by
  unfold notaryref01_Zag.f
  rw [tmod2 v h0, tdiv2 v h0, if_pos h, u64w, show v / 2 % 18446744073709551616 = v / 2 by omega]
  congr 1; unfold wrap64; omega
theorem rzag_odd (v : Int) (h0 : 0 ≤ v) (h1 : v < 18446744073709551616) (h : v % 2 = 1) : notaryref01_Zag.f v = some (-1 - v / 2) := by
  unfold notaryref01_Zag.f
  rw [tmod2 v h0, tdiv2 v h0, if_neg (by omega), u64w, show v / 2 % 18446744073709551616 = v / 2 by omega]
  congr 1
  rw [show wrap64 (v / 2) = v / 2 by unfold wrap64; omega, show wrap64 (-(v / 2)) = -(v / 2) by unfold wrap64; omega]
  unfold wrap64; omega
theorem wf_i64 (a : Int) (h : (Lit.int .i64 a).wf = true) : -9223372036854775808 ≤ a ∧ a < 9223372036854775808 := by
  simp [Lit.wf, IntKind.min, IntKind.max, IntKind.signed, IntKind.bits] at h
  omega
theorem wf_u64 (a : Int) (h : (Lit.int .u64 a).wf = true) : 0 ≤ a ∧ a < 18446744073709551616 := by
  simp [Lit.wf, IntKind.min, IntKind.max, IntKind.signed, IntKind.bits] at h
  omega
theorem VarintZigs : notarylaw01_VarintZigs.Pure := by
  intro n v hn hv
  obtain ⟨n0, n1⟩ := wf_i64 n hn
  obtain ⟨v0, v1⟩ := wf_u64 v hv
  obtain ⟨z, hz, hz', hb⟩ : ∃ z, varint_Zig.f n = some z ∧ notaryref01_Zig.f n = some z ∧ varint_Zag.f z = some n := by
    by_cases h : 0 ≤ n
    · refine ⟨2 * n, zig_pos n h n1, rzig_pos n h n1, ?_⟩
      rw [zag_even _ (by omega) (by omega) (by omega)]; congr 1; omega
    · refine ⟨-2 * n - 1, zig_neg n (by omega) n0, rzig_neg n (by omega) n0, ?_⟩
      rw [zag_odd _ (by omega) (by omega) (by omega)]; congr 1; omega
  obtain ⟨g, hg, hg', hc⟩ : ∃ g, varint_Zag.f v = some g ∧ notaryref01_Zag.f v = some g ∧ varint_Zig.f g = some v := by
    by_cases h : v % 2 = 0
    · refine ⟨v / 2, zag_even v v0 v1 h, rzag_even v v0 v1 h, ?_⟩
      rw [zig_pos _ (by omega) (by omega)]; congr 1; omega
    · refine ⟨-1 - v / 2, zag_odd v v0 v1 (by omega), rzag_odd v v0 v1 (by omega), ?_⟩
      rw [zig_neg _ (by omega) (by omega)]; congr 1; omega
  have h1 : varint_Zig.f (-1) = some 1 := by rw [zig_neg _ (by decide) (by decide)]; rfl
  unfold notarylaw01_VarintZigs.f
  simp [hz, hz', hb, hg, hg', hc, h1]
end Go.Proofs.Ytglfaamglpphmaa.Pure
