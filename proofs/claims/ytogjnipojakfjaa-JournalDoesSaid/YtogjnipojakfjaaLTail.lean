/- The tail of a digest's bytes: what the program's and the reference's functions answer. -/
import Derived.Test.YtogjnipojakfjaaLSame
import Derived.Test.YtogjnipojakfjaaPJdx2
import Derived.Test.YtogjnipojakfjaaPJdx4
namespace Go.Proofs.Ytogjnipojakfjaa.LTail
open Go.RowKit Go.Proofs.Ytogjnipojakfjaa.LSame Go.Proofs.Ytogjnipojakfjaa.PJd Go.Proofs.YtogjnipojakfjaaW.PrintWords Go.Proofs.YtogjnipojakfjaaW.PrintLast Go.Proofs.YtogjnipojakfjaaW.PrintMore
set_option linter.unusedVariables false
set_option linter.unusedSimpArgs false

/-- a number below 2^64 in eight bytes -/
def be8 (v : Int) : List Int := [v / 72057594037927936 % 256, v / 281474976710656 % 256, v / 1099511627776 % 256, v / 4294967296 % 256, v / 16777216 % 256, v / 65536 % 256, v / 256 % 256, v % 256]
/-- how many bytes 0 stand between -/
def gap (n : Int) : Nat := ((119 - n % 64) % 64).toNat
def tail (n : Int) : List Int := 128 :: List.replicate (gap n) 0 ++ be8 (n * 8 % 18446744073709551616)
theorem be8_byt (v : Int) : Byt (be8 v) := by
  unfold be8
  repeat (first | exact Byt.nil | refine Byt.cons (by omega) (by omega) ?_)
theorem tail_byt (n : Int) : Byt (tail n) := by
  unfold tail
  exact (Byt.cons (by decide) (by decide) (Byt.zeros _)).append (be8_byt _)
theorem tail_length (n : Int) : (tail n).length = gap n + 9 := by simp [tail, be8]
theorem gap_lt (n : Int) : gap n < 64 := by unfold gap; omega
theorem gap_all (n : Int) : ((n : Int) + gap n + 9) % 64 = 0 := by unfold gap; omega

theorem tail_l1 (v : Int) (h0 : 0 ≤ v) (h1 : v < 18446744073709551616) (out : List Int) (hl : out.length ≤ 1000) : Ev (fun k => sha_Tail.l1 k out v 56) (out ++ be8 v) := by
  have step : ∀ (x : Int) (s : Int) (o : List Int) (r : List Int), 0 ≤ s → s ≤ 56 → o.length ≤ 1010 → x = shr .u64 v s % 256 → Ev (fun k => sha_Tail.l1 k (o ++ [x]) v (s - 8)) r → Ev (fun k => sha_Tail.l1 k o v s) r := by
    intro x s o r hs0 hs1 ho hx h
    refine Ev.step (fun k => ?_) h
    simp only [sha_Tail.l1]
    rw [if_pos (by omega), if_pos (by omega), if_pos (by omega), w64 _ (by omega) (by omega), hx]
  unfold be8
  have e : out ++ [v / 72057594037927936 % 256, v / 281474976710656 % 256, v / 1099511627776 % 256, v / 4294967296 % 256, v / 16777216 % 256, v / 65536 % 256, v / 256 % 256, v % 256] = (((((((out ++ [v / 72057594037927936 % 256]) ++ [v / 281474976710656 % 256]) ++ [v / 1099511627776 % 256]) ++ [v / 4294967296 % 256]) ++ [v / 16777216 % 256]) ++ [v / 65536 % 256]) ++ [v / 256 % 256]) ++ [v % 256] := by simp
  rw [e]
  refine step (v / 72057594037927936 % 256) 56 _ _ (by decide) (by decide) (by omega) (by simp [shr, IntKind.bits]) ?_
  refine step (v / 281474976710656 % 256) 48 _ _ (by decide) (by decide) (by simp; omega) (by simp [shr, IntKind.bits]) ?_
  refine step (v / 1099511627776 % 256) 40 _ _ (by decide) (by decide) (by simp; omega) (by simp [shr, IntKind.bits]) ?_
  refine step (v / 4294967296 % 256) 32 _ _ (by decide) (by decide) (by simp; omega) (by simp [shr, IntKind.bits]) ?_
  refine step (v / 16777216 % 256) 24 _ _ (by decide) (by decide) (by simp; omega) (by simp [shr, IntKind.bits]) ?_
  refine step (v / 65536 % 256) 16 _ _ (by decide) (by decide) (by simp; omega) (by simp [shr, IntKind.bits]) ?_
  refine step (v / 256 % 256) 8 _ _ (by decide) (by decide) (by simp; omega) (by simp [shr, IntKind.bits]) ?_
  refine step (v % 256) 0 _ _ (by decide) (by decide) (by simp; omega) (by simp [shr, IntKind.bits]) ?_
  refine Ev.step (f := fun _ => some _) (fun k => ?_) (Ev.now _)
  simp only [sha_Tail.l1]
  rw [if_neg (by decide)]
theorem tail_l0 (x : Int) (hx0 : 0 ≤ x) (hx1 : x < 9223372036854775808) : ∀ (z : Nat) (c : Int) (out : List Int), 0 ≤ c → c < 64 → (z : Int) = (64 - c) % 64 → out.length + z ≤ 900 →
    Ev (fun k => sha_Tail.l0 k x out c) (out ++ List.replicate z 0 ++ be8 (x * 8 % 18446744073709551616)) := by
  intro z
  induction z with
  | zero =>
    intro c out h0 h1 hz hl
    obtain rfl : c = 0 := by omega
    have := tail_l1 (x * 8 % 18446744073709551616) (by omega) (by omega) out (by omega)
    refine Ev.step (fun k => ?_) (by simpa using this)
    simp only [sha_Tail.l0]
    rw [if_pos trivial, u64w, u64w, show x % 18446744073709551616 * 8 % 18446744073709551616 = x * 8 % 18446744073709551616 by omega]
  | succ z ih =>
    intro c out h0 h1 hz hl
    have := ih ((c + 1) % 64) (out ++ [0]) (by omega) (by omega) (by omega) (by simp; omega)
    rw [show out ++ List.replicate (z + 1) 0 = out ++ [0] ++ List.replicate z 0 by simp [List.replicate_succ]]
    refine Ev.step (fun k => ?_) this
    simp only [sha_Tail.l0]
    rw [if_neg (by omega), if_pos (by omega), w64 _ (by omega) (by omega), Int.tmod_eq_emod_of_nonneg (by omega)]
theorem tail_ev (n : Int) (h0 : 0 ≤ n) (h1 : n < 9223372036854775808) : Ev (fun k => sha_Tail.f k n) (tail n) := by
  have hg : gap n < 64 := gap_lt n
  have := tail_l0 n h0 h1 (gap n) ((n % 64 + 9) % 64) [128] (by omega) (by omega) (by unfold gap; omega) (by simp; omega)
  refine Ev.congr (fun k => ?_) this
  simp only [sha_Tail.f]
  rw [if_neg (by omega), Int.tmod_eq_emod_of_nonneg h0, w64 _ (by omega) (by omega), Int.tmod_eq_emod_of_nonneg (by omega)]
theorem rtail_l1 (v : Int) (h0 : 0 ≤ v) (h1 : v < 18446744073709551616) (out : List Int) (hl : out.length ≤ 1000) : Ev (fun k => notaryref03_Tail.l1 k out v 72057594037927936) (out ++ be8 v) := by
  have step : ∀ (x u u' : Int) (o : List Int) (r : List Int), 0 < u → u ≤ 72057594037927936 → o.length ≤ 1010 → x = v / u % 256 → u' = u / 256 → Ev (fun k => notaryref03_Tail.l1 k (o ++ [x]) v u') r → Ev (fun k => notaryref03_Tail.l1 k o v u) r := by
    intro x u u' o r hu0 hu1 ho hx hu' h
    refine Ev.step (fun k => ?_) h
    have hd0 : 0 ≤ v / u := Int.ediv_nonneg h0 (by omega)
    have hd1 : v / u ≤ v := Int.ediv_le_self _ h0
    simp only [notaryref03_Tail.l1]
    rw [if_pos (by omega), if_neg (by omega), if_pos (by omega), Int.tdiv_eq_ediv_of_nonneg h0, Int.tdiv_eq_ediv_of_nonneg (by omega), u64w, u64w, Int.emod_eq_of_lt hd0 (by omega), Int.tmod_eq_emod_of_nonneg hd0, hx, hu']
    rw [show u / 256 % 18446744073709551616 = u / 256 by omega, Int.emod_emod_of_dvd _ (by decide)]
  unfold be8
  have e : out ++ [v / 72057594037927936 % 256, v / 281474976710656 % 256, v / 1099511627776 % 256, v / 4294967296 % 256, v / 16777216 % 256, v / 65536 % 256, v / 256 % 256, v % 256] = (((((((out ++ [v / 72057594037927936 % 256]) ++ [v / 281474976710656 % 256]) ++ [v / 1099511627776 % 256]) ++ [v / 4294967296 % 256]) ++ [v / 16777216 % 256]) ++ [v / 65536 % 256]) ++ [v / 256 % 256]) ++ [v % 256] := by simp
  rw [e]
  refine step (v / 72057594037927936 % 256) 72057594037927936 281474976710656 _ _ (by decide) (by decide) (by omega) rfl (by decide) ?_
  refine step (v / 281474976710656 % 256) 281474976710656 1099511627776 _ _ (by decide) (by decide) (by simp; omega) rfl (by decide) ?_
  refine step (v / 1099511627776 % 256) 1099511627776 4294967296 _ _ (by decide) (by decide) (by simp; omega) rfl (by decide) ?_
  refine step (v / 4294967296 % 256) 4294967296 16777216 _ _ (by decide) (by decide) (by simp; omega) rfl (by decide) ?_
  refine step (v / 16777216 % 256) 16777216 65536 _ _ (by decide) (by decide) (by simp; omega) rfl (by decide) ?_
  refine step (v / 65536 % 256) 65536 256 _ _ (by decide) (by decide) (by simp; omega) rfl (by decide) ?_
  refine step (v / 256 % 256) 256 1 _ _ (by decide) (by decide) (by simp; omega) rfl (by decide) ?_
  refine step (v % 256) 1 0 _ _ (by decide) (by decide) (by simp; omega) (by rw [Int.ediv_one]) (by decide) ?_
  refine Ev.step (f := fun _ => some _) (fun k => ?_) (Ev.now _)
  simp only [notaryref03_Tail.l1]
  rw [if_neg (by decide)]
theorem rtail_l0 (x : Int) (hx0 : 0 ≤ x) (hx1 : x < 9223372036854775808) : ∀ (z : Nat) (c : Int) (out : List Int), 0 ≤ c → c + z < 1000 → (z : Int) = (64 - (c + 8) % 64) % 64 → out.length + z ≤ 900 →
    Ev (fun k => notaryref03_Tail.l0 k x out c) (out ++ List.replicate z 0 ++ be8 (x * 8 % 18446744073709551616)) := by
  intro z
  induction z with
  | zero =>
    intro c out h0 h1 hz hl
    have := rtail_l1 (x * 8 % 18446744073709551616) (by omega) (by omega) out (by omega)
    refine Ev.step (fun k => ?_) (by simpa using this)
    simp only [notaryref03_Tail.l0]
    rw [w64 _ (by omega) (by omega), Int.tmod_eq_emod_of_nonneg (by omega), if_pos (by omega), u64w, u64w, show x % 18446744073709551616 * 8 % 18446744073709551616 = x * 8 % 18446744073709551616 by omega]
  | succ z ih =>
    intro c out h0 h1 hz hl
    have := ih (c + 1) (out ++ [0]) (by omega) (by omega) (by omega) (by simp; omega)
    rw [show out ++ List.replicate (z + 1) 0 = out ++ [0] ++ List.replicate z 0 by simp [List.replicate_succ]]
    refine Ev.step (fun k => ?_) this
    simp only [notaryref03_Tail.l0]
    rw [w64 _ (by omega) (by omega), Int.tmod_eq_emod_of_nonneg (by omega), if_neg (by omega), if_pos (by omega), w64 _ (by omega) (by omega)]
theorem rtail_ev (n : Int) (h0 : 0 ≤ n) (h1 : n < 9223372036854775808) : Ev (fun k => notaryref03_Tail.f k n) (tail n) := by
  have hg : gap n < 64 := gap_lt n
  have := rtail_l0 n h0 h1 (gap n) (n % 64 + 1) [128] (by omega) (by omega) (by unfold gap; omega) (by simp; omega)
  refine Ev.congr (fun k => ?_) this
  simp only [notaryref03_Tail.f]
  rw [Int.tmod_eq_emod_of_nonneg h0, w64 _ (by omega) (by omega)]
end Go.Proofs.Ytogjnipojakfjaa.LTail
