/- Terms as bytes, plainly: what is written, by both programs, and that it is read back; the bytes by themselves. -/
import Derived.Test.YtiamcmjdoobaeaaLTerm
import Derived.Test.YtiamcmjdoobaeaaLVarint
import Derived.Laws.Strings
import Derived.Test.YtiamcmjdoobaeaaLStub
import Derived.Test.YtiamcmjdoobaeaaPCex1
import Derived.Test.YtiamcmjdoobaeaaPCex2
import Derived.Test.YtiamcmjdoobaeaaPCex4
import Derived.Test.YtiamcmjdoobaeaaPCex6
namespace Go.Proofs.Ytiamcmjdoobaeaa.LCd
open Go.RowKit Go.Proofs.Ytiamcmjdoobaeaa.PCe Go.Proofs.YtiamcmjdoobaeaaW.PrintWords Go.Proofs.YtiamcmjdoobaeaaW.PrintLast Go.Proofs.YtiamcmjdoobaeaaW.PrintMore
open LTerm SVarint LVarint
set_option linter.unusedVariables false
set_option linter.unusedSimpArgs false
/-- the number that a number with a sign stands as -/
def zz (a : Int) : Int := if 0 ≤ a then 2 * a else -2 * a - 1
theorem i64w (n : Int) : IntKind.i64.wrap n = (n + 9223372036854775808) % 18446744073709551616 - 9223372036854775808 := IntKind.wrap_i64 n
theorem xor_zero_u64 (x : Int) (h0 : 0 ≤ x) (h1 : x < 18446744073709551616) : bits .xor .u64 x 0 = x := by
  rw [u64_xor x 0 h0 h1 (by decide) (by decide)]
  simp; omega
theorem nat_xor_ones (a : Nat) (ha : a < 18446744073709551616) : a ^^^ 18446744073709551615 = 18446744073709551615 - a := by
  have h := congrArg BitVec.toNat (BitVec.xor_allOnes (x := BitVec.ofNat 64 a))
  simp only [BitVec.toNat_xor, BitVec.toNat_not, BitVec.toNat_ofNat, BitVec.toNat_allOnes] at h
  rw [Nat.mod_eq_of_lt (by simpa using ha)] at h
  simpa using h
theorem xor_ones_u64 (x : Int) (h0 : 0 ≤ x) (h1 : x < 18446744073709551616) : bits .xor .u64 x 18446744073709551615 = 18446744073709551615 - x := by
  rw [u64_xor x _ h0 h1 (by decide) (by decide)]
  obtain ⟨a, rfl⟩ := Int.eq_ofNat_of_zero_le h0
  have := nat_xor_ones a (by omega)
  simp only [Int.toNat_natCast, Int.reduceToNat]
  rw [this]; omega
theorem zig (a : Int) (h0 : -9223372036854775808 ≤ a) (h1 : a < 9223372036854775808) : varint_Zig.f a = some (zz a) := by
  unfold varint_Zig.f zz
  by_cases h : 0 ≤ a
  · rw [if_pos h, show a / 9223372036854775808 = 0 by omega, u64w, u64w, u64w]
    rw [show (a % 18446744073709551616 * 2) % 18446744073709551616 = 2 * a by omega, show (0 : Int) % 18446744073709551616 = 0 by decide]
    rw [xor_zero_u64 _ (by omega) (by omega)]
  · rw [if_neg h, show a / 9223372036854775808 = -1 by omega, u64w, u64w, u64w]
    rw [show (a % 18446744073709551616 * 2) % 18446744073709551616 = 18446744073709551616 + 2 * a by omega, show (-1 : Int) % 18446744073709551616 = 18446744073709551615 by decide]
    rw [xor_ones_u64 _ (by omega) (by omega)]
    congr 1; omega
theorem rzig (a : Int) (h0 : -9223372036854775808 ≤ a) (h1 : a < 9223372036854775808) : notaryref01_Zig.f a = some (zz a) := by
  unfold notaryref01_Zig.f zz
  by_cases h : 0 ≤ a
  · rw [if_pos h, if_pos (by omega), u64w, u64w]; congr 1; omega
  · rw [if_neg h, if_neg (by omega), u64w, u64w, u64w]
    rw [show wrap64 (a + 1) = a + 1 by unfold wrap64; omega, show wrap64 (-(a + 1)) = -(a + 1) by unfold wrap64; omega]
    congr 1; omega
theorem and_one_u64 (x : Int) (h0 : 0 ≤ x) (h1 : x < 18446744073709551616) : bits .and .u64 x 1 = x % 2 := by
  rw [u64_and x _ h0 h1 (by decide) (by decide)]
  obtain ⟨a, rfl⟩ := Int.eq_ofNat_of_zero_le h0
  have := nat_mask1 a
  simp only [Int.toNat_natCast, Int.reduceToNat]
  rw [this]; omega
theorem xor_i64 (x y : Int) : bits .xor .i64 x y = IntKind.i64.wrap (((BitVec.ofInt 64 x).toNat ^^^ (BitVec.ofInt 64 y).toNat : Nat) : Int) := by
  rw [← BitVec.toNat_xor]; rfl
theorem xor_zero_i64 (x : Int) (h0 : 0 ≤ x) (h1 : x < 9223372036854775808) : bits .xor .i64 x 0 = x := by
  obtain ⟨a, rfl⟩ := Int.eq_ofNat_of_zero_le h0
  have e : (BitVec.ofInt 64 0).toNat = 0 := by decide
  rw [xor_i64, ofInt_u64 a (by omega), e, Nat.xor_zero, i64w]
  omega
theorem xor_ones_i64 (x : Int) (h0 : 0 ≤ x) (h1 : x < 9223372036854775808) : bits .xor .i64 x (-1) = -1 - x := by
  obtain ⟨a, rfl⟩ := Int.eq_ofNat_of_zero_le h0
  have e : (BitVec.ofInt 64 (-1)).toNat = 18446744073709551615 := by decide
  rw [xor_i64, ofInt_u64 a (by omega), e, nat_xor_ones a (by omega), i64w]
  omega
theorem zag_even (v : Int) (h0 : 0 ≤ v) (h1 : v < 18446744073709551616) (h : v % 2 = 0) : varint_Zag.f v = some (v / 2) := by
  unfold varint_Zag.f
  rw [and_one_u64 v h0 h1, h]
  rw [show wrap64 (v / 2) = v / 2 by unfold wrap64; omega, show wrap64 (-(wrap64 0)) = 0 by unfold wrap64; omega, xor_zero_i64 _ (by omega) (by omega)]
theorem zag_odd (v : Int) (h0 : 0 ≤ v) (h1 : v < 18446744073709551616) (h : v % 2 = 1) : varint_Zag.f v = some (-1 - v / 2) := by
  unfold varint_Zag.f
  rw [and_one_u64 v h0 h1, h]
  rw [show wrap64 (v / 2) = v / 2 by unfold wrap64; omega, show wrap64 (-(wrap64 1)) = -1 by unfold wrap64; omega, xor_ones_i64 _ (by omega) (by omega)]
theorem zag (a : Int) (h0 : -9223372036854775808 ≤ a) (h1 : a < 9223372036854775808) : varint_Zag.f (zz a) = some a := by
  unfold zz
  by_cases h : 0 ≤ a
  · rw [if_pos h, zag_even _ (by omega) (by omega) (by omega)]; congr 1; omega
  · rw [if_neg h, zag_odd _ (by omega) (by omega) (by omega)]; congr 1; omega
theorem zz_bound (a : Int) (h0 : -9223372036854775808 ≤ a) (h1 : a < 9223372036854775808) : 0 ≤ zz a ∧ zz a < 18446744073709551616 := by
  unfold zz
  split <;> omega
/-- the numbers of a term are numbers -/
inductive Num : T → Prop
  | mk (x : T) : -9223372036854775808 ≤ x.f1 ∧ x.f1 < 9223372036854775808 → (∀ y ∈ x.f3, Num y) → Num x
theorem Num.at1 {x : T} (h : Num x) : -9223372036854775808 ≤ x.f1 ∧ x.f1 < 9223372036854775808 := by cases h; assumption
theorem Num.sub {x y : T} (h : Num x) (hy : y ∈ x.f3) : Num y := by cases h with | mk _ _ h => exact h y hy
theorem shift {α : Type} {g : Nat → Option α} {r : α} (h : Ev g r) (c : Nat) : Ev (fun m => g (m + c)) r := by
  obtain ⟨K, hK⟩ := h
  exact ⟨K, fun k hk => hK _ (by omega)⟩
/-- a term's bytes -/
def tb (t : T) : List Int := [t.f0] ++ enc (zz t.f1) ++ enc (t.f3.length : Int) ++ (t.f3.attach.map fun y => tb y.1).flatten
termination_by SizeOf.sizeOf t
decreasing_by exact lt_of y.2
theorem tb_eq (t : T) : tb t = [t.f0] ++ enc (zz t.f1) ++ enc (t.f3.length : Int) ++ (t.f3.map tb).flatten := by rw [tb, List.attach_map_val (f := tb)]
/-- no more than n levels, and no lists too long to be written -/
inductive Tame : Nat → T → Prop
  | mk (n : Nat) (x : T) : x.f3.length ≤ 100000 → (∀ y ∈ x.f3, Tame n y) → Tame (n + 1) x
theorem Tame.len {n : Nat} {x : T} (h : Tame n x) : x.f3.length ≤ 100000 := by cases h; assumption
theorem Tame.sub {n : Nat} {x y : T} (h : Tame (n + 1) x) (hy : y ∈ x.f3) : Tame n y := by cases h with | mk _ _ _ h => exact h y hy
/-- what may be written on a level -/
inductive Good : Nat → T → Prop
  | mk (lv : Nat) (x : T) : lv ≤ 64 → 1 ≤ x.f0 ∧ x.f0 ≤ 36 → x.f2.toList = [] ∧ x.f4 = 0 ∧ x.f5 = 0 → (∀ y ∈ x.f3, Good (lv + 1) y) → Good lv x
theorem Good.lvl {lv : Nat} {x : T} (h : Good lv x) : lv ≤ 64 := by cases h; assumption
theorem Good.knd {lv : Nat} {x : T} (h : Good lv x) : 1 ≤ x.f0 ∧ x.f0 ≤ 36 := by cases h; assumption
theorem Good.frm {lv : Nat} {x : T} (h : Good lv x) : x.f2.toList = [] ∧ x.f4 = 0 ∧ x.f5 = 0 := by cases h; assumption
theorem Good.sub {lv : Nat} {x y : T} (h : Good lv x) (hy : y ∈ x.f3) : Good (lv + 1) y := by cases h with | mk _ _ _ _ _ h => exact h y hy
/-- what is wrong stays so -/
theorem wr_err (x : T) (lv : Int) (s : List Int × Int) (h1 : s.1.length < 1000000000) (h2 : x.f3.length < 1000000000) (h3 : -1000000 ≤ lv ∧ lv ≤ 1000000) (he : s.2 ≠ 0) : Ev (fun m => code_wr.term m x lv s) s :=
  Ev.step (fun m => code_wr.term.eq_2 ..) (LEv.pos ⟨h1, h2, h3⟩ (LEv.pos he (Ev.now _)))
theorem all_err (lv : Int) (s : List Int × Int) (h1 : s.1.length < 1000000000) (h3 : -1000000 ≤ lv ∧ lv ≤ 1000000) (he : s.2 ≠ 0) : ∀ xs : List T, (∀ x ∈ xs, x.f3.length < 1000000000) → Ev (fun m => code_wr.all (fun x s => code_wr.term m x lv s) xs s) s
  | [], _ => Ev.now _
  | x :: xs, h => LEv.bd s (wr_err x lv s h1 (h x (by simp)) h3 he) (all_err lv s h1 h3 he xs (fun y hy => h y (by simp [hy])))
/-- what is true of the bytes of a term on a level -/
structure Enc (x : T) (lv : Nat) (b : List Int) (e : Int) : Prop where
  len : b.length ≤ 21 * sz x
  byt : Byt b
  tbx : e = 0 → b = tb x
  good : Good lv x → e = 0
  ref : Ev (fun m => notaryref36_Term.f m x.f0 x.f1 x.f2 x.f3 x.f4 x.f5 (lv : Int)) (if e = 0 then b else [], e)
  wr : ∀ out : List Int, out.length + 21 * sz x ≤ 100000000 → ∃ b', b'.length ≤ out.length + 21 * sz x ∧ Ev (fun m => code_wr.term m x (lv : Int) (out, 0)) (b', e) ∧ (e = 0 → b' = out ++ b)
  rd : e = 0 → 0 < b.length ∧ ∀ (B pre rest : List Int), B = pre ++ b ++ rest → Byt B → B.length ≤ 100000000000 → Ev (fun m => code_rd.term m B ((lv : Int) - 1) (pre.length : Int) 0) (x, ((pre.length + b.length : Nat) : Int), 0)
structure EncL (x : T) (xs : List T) (lv : Nat) (b : List Int) (e : Int) : Prop where
  len : b.length ≤ 21 * (xs.map sz).sum
  byt : Byt b
  tbx : e = 0 → b = (xs.map tb).flatten
  good : (∀ y ∈ xs, Good (lv + 1) y) → e = 0
  ref : ∀ (pre : List T) (acc : List Int), x.f3 = pre ++ xs → acc.length + 21 * (xs.map sz).sum ≤ 100000000 → Ev (fun m => notaryref36_Term.l0 m (lv : Int) acc (pre.length : Int) x.f0 x.f1 x.f2 x.f3 x.f4 x.f5) (if e = 0 then acc ++ b else [], e)
  wr : ∀ out : List Int, out.length + 21 * (xs.map sz).sum ≤ 100000000 → ∃ b', b'.length ≤ out.length + 21 * (xs.map sz).sum ∧ Ev (fun m => code_wr.all (fun x s => code_wr.term m x ((lv : Int) + 1) s) xs (out, 0)) (b', e) ∧ (e = 0 → b' = out ++ b)
  rd : e = 0 → ∀ (B pre rest : List Int) (outs : List T) (c : Nat), B = pre ++ b ++ rest → Byt B → B.length ≤ 100000000000 → outs.length + xs.length ≤ 100000 → Ev (fun m => code_rd.loop (fun p e => code_rd.term (m + c) B (lv : Int) p e) m ((outs.length + xs.length : Nat) : Int) (pre.length : Int) 0 outs) (outs ++ xs, ((pre.length + b.length : Nat) : Int), 0)
theorem encL (x : T) (lv : Nat) (hlv : 1 ≤ lv ∧ lv ≤ 500) : ∀ xs : List T, xs.length ≤ 100000 → x.f3.length ≤ 100000 → (xs.map sz).sum ≤ 1000000 → (∀ y ∈ xs, y.f3.length ≤ 100000 ∧ ∃ b e, Enc y (lv + 1) b e) → ∃ b e, EncL x xs lv b e := by
  intro xs
  induction xs with
  | nil =>
    intro hl hx hz _
    refine ⟨[], 0, by simp, Byt.nil, fun _ => rfl, fun _ => rfl, fun pre acc he ha => ?_, fun out ho => ⟨out, by omega, Ev.now _, fun _ => by simp⟩, fun _ B pre rest outs c hB hb hl ho => ?_⟩
    · refine Ev.step (fun m => notaryref36_Term.l0.eq_2 ..) (LEv.neg (by rw [he]; simp) (LEv.fin (by simp)))
    · refine Ev.step (fun m => code_rd.loop.eq_2 ..) (LEv.neg (by simp) (LEv.fin (by simp)))
  | cons y xs ih =>
    intro hl hx hz hall
    simp only [List.map_cons, List.sum_cons, List.length_cons] at hl hz
    obtain ⟨hy3, b1, e1, h1⟩ := hall y (by simp)
    obtain ⟨b2, e2, h2⟩ := ih (by omega) hx (by omega) (fun z hz => hall z (by simp [hz]))
    have l1 := h1.len
    have l2 := h2.len
    by_cases he : e1 = 0
    case neg =>
      refine ⟨[], e1, by simp, Byt.nil, fun h => absurd h he, fun h => h1.good (h y (by simp)), fun pre acc hp ha => ?_, fun out ho => ?_, fun h => absurd h he⟩
      · have er : rd_T25 x.f3 (pre.length : Int) = y := by rw [hp]; exact rdT _ _ _
        refine Ev.step (fun m => notaryref36_Term.l0.eq_2 ..) (LEv.pos (by rw [hp]; exact lenlt _ _ _) (LEv.pos (by omega) ?_))
        rw [er, up1 lv (by omega)]
        refine LEv.bd _ h1.ref (LEv.neg he (LEv.fin (by simp [he])))
      · simp only [List.map_cons, List.sum_cons] at ho
        obtain ⟨b', c1, c2, c3⟩ := h1.wr out (by omega)
        refine ⟨b', by simp only [List.map_cons, List.sum_cons]; omega, ?_, fun h => absurd h he⟩
        have c4 : Ev (fun m => code_wr.term m y ((lv : Int) + 1) (out, 0)) (b', e1) := by rw [show ((lv : Int) + 1) = ((lv + 1 : Nat) : Int) by omega]; exact c2
        exact LEv.bd _ c4 (all_err _ _ (by show b'.length < _; omega) (by omega) he xs (fun z hz => by have := (hall z (by simp [hz])).1; omega))
    subst he
    refine ⟨b1 ++ b2, e2, by simp only [List.length_append, List.map_cons, List.sum_cons]; omega, h1.byt.append h2.byt, fun h0 => by rw [h1.tbx rfl, h2.tbx h0]; simp, fun h => h2.good (fun z hz => h z (by simp [hz])), fun pre acc hp ha => ?_, fun out ho => ?_, fun h0 B pre rest outs c hB hb hlB ho => ?_⟩
    · simp only [List.map_cons, List.sum_cons] at ha
      have er : rd_T25 x.f3 (pre.length : Int) = y := by rw [hp]; exact rdT _ _ _
      refine Ev.step (fun m => notaryref36_Term.l0.eq_2 ..) (LEv.pos (by rw [hp]; exact lenlt _ _ _) (LEv.pos (by omega) ?_))
      rw [er, up1 lv (by omega)]
      refine LEv.bd _ h1.ref (LEv.pos rfl ?_)
      simp only [if_true]
      refine LEv.pos (by omega) ?_
      rw [up1 _ (by rw [hp] at hx; simp at hx; omega), ← len1 pre y]
      have := h2.ref (pre ++ [y]) (acc ++ b1) (by rw [hp]; simp) (by simp only [List.length_append]; omega)
      rw [List.append_assoc] at this
      exact this
    · simp only [List.map_cons, List.sum_cons] at ho
      obtain ⟨b', c1, c2, c3⟩ := h1.wr out (by omega)
      obtain rfl := c3 rfl
      obtain ⟨b'', d1, d2, d3⟩ := h2.wr (out ++ b1) (by simp only [List.length_append]; omega)
      refine ⟨b'', by simp only [List.length_append, List.map_cons, List.sum_cons] at d1 ⊢; omega, ?_, fun h => by rw [d3 h, List.append_assoc]⟩
      have c4 : Ev (fun m => code_wr.term m y ((lv : Int) + 1) (out, 0)) (out ++ b1, 0) := by rw [show ((lv : Int) + 1) = ((lv + 1 : Nat) : Int) by omega]; exact c2
      exact LEv.bd _ c4 d2
    · simp only [List.length_cons] at ho
      have r1 := (h1.rd rfl).2 B pre (b2 ++ rest) (by rw [hB]; simp) hb hlB
      rw [show (((lv + 1 : Nat) : Int) - 1) = (lv : Int) by omega] at r1
      have r2 := h2.rd h0 B (pre ++ b1) rest (outs ++ [y]) (c + 1) (by rw [hB]; simp) hb hlB (by simp only [List.length_append, List.length_singleton]; omega)
      refine Ev.step (fun m => code_rd.loop.eq_2 ..) (LEv.pos ⟨by simp only [List.length_cons]; omega, rfl⟩ (LEv.bd _ (Ev.congr (fun m => by rw [Nat.add_assoc]) (shift r1 (1 + c))) ?_))
      refine LEv.pos (by omega) ?_
      rw [show (outs ++ [y]).length + xs.length = outs.length + (y :: xs).length by simp; omega, show outs ++ [y] ++ xs = outs ++ y :: xs by simp, show (pre ++ b1).length + b2.length = pre.length + (b1 ++ b2).length by simp; omega, show (pre ++ b1).length = pre.length + b1.length by simp] at r2
      exact Ev.congr (fun m => by rw [Nat.add_assoc, Nat.add_comm 1 c]) r2
theorem sum_mem (y : T) : ∀ l : List T, y ∈ l → sz y ≤ (l.map sz).sum
  | z :: l, h => by
    simp only [List.map_cons, List.sum_cons]
    rcases List.mem_cons.1 h with rfl | h
    · omega
    · have := sum_mem y l h; omega
theorem f2_nil (a : ByteArray) (h : a.toList = []) : a = ⟨#[]⟩ := by
  rw [ByteArray.toList_eq] at h
  cases a with
  | mk d =>
    have : d = #[] := by simpa using h
    rw [this]
theorem rdI (pre : List Int) (r : Int) (rest : List Int) : rd (pre ++ r :: rest) (pre.length : Int) = r := by
  unfold rd
  rw [Int.toNat_natCast]
  simp
theorem number_ok (B : List Int) (pre : List Int) (v : Int) (rest : List Int) (h0 : 0 ≤ v) (h1 : v < 18446744073709551616) (hB : B = pre ++ enc v ++ rest) (hb : Byt B) (hl : B.length ≤ 100000000000) :
    Ev (fun m => code_rd.number m B (pre.length : Int) 0) (v, ((pre.length + (enc v).length : Nat) : Int), 0) := by
  refine Ev.congr (f := fun m => varint_Get.f m B (pre.length : Int)) (fun m => by unfold code_rd.number; rw [if_pos rfl]) ?_
  have h := get_ev B (pre.length : Int) (by omega) hb
  have e : B.drop (pre.length : Int).toNat = enc v ++ rest := by rw [Int.toNat_natCast, hB, List.append_assoc, List.drop_left]
  have hg : getS B (pre.length : Int) = (v, ((pre.length + (enc v).length : Nat) : Int), 0) := by
    unfold getS
    rw [if_neg (by rw [hB]; simp only [List.length_append]; omega), e, dec_enc v rest h0 h1]
    rfl
  rw [hg] at h
  exact h
theorem enc_term (x : T) : ∀ n lv : Nat, Tame n x → Num x → sz x ≤ 1000000 → 1 ≤ lv → lv + n ≤ 500 → ∃ b e, Enc x lv b e := by
  induction x using ind with
  | h x ih =>
  intro n lv hS hN hz hlv hln
  obtain ⟨n', rfl⟩ : ∃ k, n = k + 1 := by cases hS; exact ⟨_, rfl⟩
  have h3 := hS.len
  obtain ⟨n0, n1⟩ := hN.at1
  have hzx := sz_eq x
  have hbd : x.f3.length < 1000000000 := by omega
  -- what is wrong at once
  have bad : ∀ e : Int, e ≠ 0 → Ev (fun m => notaryref36_Term.f m x.f0 x.f1 x.f2 x.f3 x.f4 x.f5 (lv : Int)) ([], e) → (∀ out : List Int, out.length < 1000000000 → Ev (fun m => code_wr.term m x (lv : Int) (out, 0)) (out, e)) → ¬ Good lv x → ∃ b e, Enc x lv b e := fun e he h1 h2 h3 =>
    ⟨[], e, ⟨by simp, Byt.nil, fun h => absurd h he, fun g => absurd g h3, by rw [if_neg he]; exact h1, fun out ho => ⟨out, by omega, h2 out (by omega), fun h => absurd h he⟩, fun h => absurd h he⟩⟩
  by_cases c1 : (lv : Int) > 64
  · exact bad 7 (by decide) (Ev.step (fun m => notaryref36_Term.f.eq_2 ..) (LEv.pos c1 (Ev.now _))) (fun out ho => Ev.step (fun m => code_wr.term.eq_2 ..) (LEv.pos ⟨ho, hbd, by omega⟩ (LEv.neg (fun h => h rfl) (LEv.pos c1 (Ev.now _))))) (fun g => by have := g.lvl; omega)
  by_cases c2 : x.f0 < 1 ∨ x.f0 > 36
  · refine bad 23 (by decide) (Ev.step (fun m => notaryref36_Term.f.eq_2 ..) (LEv.neg c1 ?_)) (fun out ho => Ev.step (fun m => code_wr.term.eq_2 ..) (LEv.pos ⟨ho, hbd, by omega⟩ (LEv.neg (fun h => h rfl) (LEv.neg c1 (LEv.pos c2 (Ev.now _)))))) (fun g => by have := g.knd; omega)
    refine LEv.ite (fun h => Ev.step (fun m => notaryref36_Term.j0.eq_2 ..) (LEv.pos rfl (Ev.now _))) (fun h => Ev.step (fun m => notaryref36_Term.j0.eq_2 ..) (LEv.pos (decide_eq_true (c2.resolve_left h)) (Ev.now _)))
  by_cases c3 : x.f2.toList ≠ [] ∨ x.f4 ≠ 0 ∨ x.f5 ≠ 0
  · refine bad 2 (by decide) (Ev.step (fun m => notaryref36_Term.f.eq_2 ..) (LEv.neg c1 (LEv.neg (fun h => c2 (.inl h)) (Ev.step (fun m => notaryref36_Term.j0.eq_2 ..) (LEv.neg (by simp; omega) ?_))))) (fun out ho => Ev.step (fun m => code_wr.term.eq_2 ..) (LEv.pos ⟨ho, hbd, by omega⟩ (LEv.neg (fun h => h rfl) (LEv.neg c1 (LEv.neg c2 (LEv.pos c3 (Ev.now _))))))) (fun g => c3.elim (fun h => h g.frm.1) (fun h => h.elim (fun h => h g.frm.2.1) (fun h => h g.frm.2.2)))
    refine LEv.ite (fun h => LEv.ite (fun h4 => Ev.step (fun m => notaryref36_Term.j1.eq_2 ..) (LEv.pos ?_ (Ev.now _))) (fun h4 => Ev.step (fun m => notaryref36_Term.j1.eq_2 ..) (LEv.pos rfl (Ev.now _)))) (fun h => Ev.step (fun m => notaryref36_Term.j1.eq_2 ..) (LEv.pos rfl (Ev.now _)))
    simpa using (c3.resolve_left (fun g => g h)).resolve_left (fun g => g h4)
  have hf : x.f2.toList = [] ∧ x.f4 = 0 ∧ x.f5 = 0 := by
    refine ⟨?_, ?_, ?_⟩
    · by_cases h : x.f2.toList = []
      · exact h
      · exact absurd (.inl h) c3
    · by_cases h : x.f4 = 0
      · exact h
      · exact absurd (.inr (.inl h)) c3
    · by_cases h : x.f5 = 0
      · exact h
      · exact absurd (.inr (.inr h)) c3
  obtain ⟨hf2, hf4, hf5⟩ := hf
  have hk : 1 ≤ x.f0 ∧ x.f0 ≤ 36 := by omega
  obtain ⟨b, e, hL⟩ := encL x lv (by omega) x.f3 h3 h3 (by omega) (fun y hy => ⟨(hS.sub hy).len, ih y hy n' (lv + 1) (hS.sub hy) (hN.sub hy) (by have := sum_mem y x.f3 hy; omega) (by omega) (by omega)⟩)
  obtain ⟨z0, z1⟩ := zz_bound x.f1 n0 n1
  have hw : IntKind.u64.wrap (x.f3.length : Int) = (x.f3.length : Int) := by rw [u64w]; omega
  have e1 := enc_length (zz x.f1)
  have e2 := enc_length (x.f3.length : Int)
  have lL := hL.len
  have hpre : Byt ([x.f0] ++ enc (zz x.f1) ++ enc (x.f3.length : Int)) := ((Byt.nil.cons (by omega) (by omega)).append (enc_byt _ z0)).append (enc_byt _ (by omega))
  obtain ⟨P, hP⟩ : ∃ P, P = [x.f0] ++ enc (zz x.f1) ++ enc (x.f3.length : Int) := ⟨_, rfl⟩
  have lP : P.length ≤ 21 ∧ 0 < P.length := by rw [hP]; simp only [List.length_append, List.length_singleton]; omega
  refine ⟨P ++ b, e, ?_, ?_, ?_, fun g => hL.good (fun y hy => g.sub hy), ?_, ?_, ?_⟩
  · simp only [List.length_append]; omega
  · exact (hP ▸ hpre).append hL.byt
  · intro h0
    rw [tb_eq, hL.tbx h0, hP]
  · refine Ev.step (fun m => notaryref36_Term.f.eq_2 ..) (LEv.neg c1 (LEv.neg (by omega) (Ev.step (fun m => notaryref36_Term.j0.eq_2 ..) (LEv.neg (by simp; omega) (LEv.pos hf2 (LEv.pos hf4 (Ev.step (fun m => notaryref36_Term.j1.eq_2 ..) (LEv.neg (by simp [hf5]) ?_))))))))
    refine LEv.sb (LEv.eqb (rzig _ n0 n1) (LEv.bd _ (rbytes_ev _ z0 z1) (LEv.pos (by simp only [List.length_singleton]; omega) (LEv.sb (LEv.bd _ (Ev.congr (fun m => by rw [hw]) (rbytes_ev (x.f3.length : Int) (by omega) (by omega))) (LEv.pos (by simp only [List.length_append, List.length_singleton]; omega) ?_))))))
    rw [show x.f0 % 256 = x.f0 by omega, ← hP]
    have := hL.ref [] P rfl (by omega)
    exact this
  · intro out ho
    obtain ⟨b', d1, d2, d3⟩ := hL.wr (out ++ P) (by simp only [List.length_append]; omega)
    refine ⟨b', by simp only [List.length_append] at d1; omega, ?_, fun h => by rw [d3 h, List.append_assoc]⟩
    refine Ev.step (fun m => code_wr.term.eq_2 ..) (LEv.pos ⟨by show out.length < _; omega, hbd, by omega⟩ (LEv.neg (fun h => h rfl) (LEv.neg c1 (LEv.neg c2 (LEv.neg c3 ?_)))))
    refine LEv.eqb (zig _ n0 n1) (LEv.bd _ (bytes_ev _ z0 z1) (LEv.bd _ (bytes_ev _ (by omega) (by omega)) (LEv.pos (by omega) ?_)))
    have : out ++ [x.f0] ++ enc (zz x.f1) ++ enc (x.f3.length : Int) = out ++ P := by rw [hP]; simp
    rw [this]
    exact d2
  · intro h0
    refine ⟨by simp only [List.length_append]; omega, fun B pre rest hB hb hl => ?_⟩
    have hlB : B.length = pre.length + (P.length + b.length) + rest.length := by rw [hB]; simp; omega
    have hx : x = ⟨x.f0, x.f1, ⟨#[]⟩, x.f3, 0, 0⟩ := by
      have := f2_nil _ hf2
      cases x
      simp_all
    have hrd : rd B (pre.length : Int) = x.f0 := by
      have : B = pre ++ x.f0 :: (enc (zz x.f1) ++ enc (x.f3.length : Int) ++ b ++ rest) := by rw [hB, hP]; simp
      rw [this, rdI]
    have one : code_rd.one B (pre.length : Int) 0 = some (x.f0, (pre.length : Int) + 1, 0) := by
      unfold code_rd.one
      rw [if_pos rfl, if_neg (by omega), if_pos (by omega), hrd, w64 _ (by omega) (by omega)]
    have num1 := number_ok B (pre ++ [x.f0]) (zz x.f1) (enc (x.f3.length : Int) ++ b ++ rest) z0 z1 (by rw [hB, hP]; simp) hb hl
    have num2 := number_ok B (pre ++ [x.f0] ++ enc (zz x.f1)) (x.f3.length : Int) (b ++ rest) (by omega) (by omega) (by rw [hB, hP]; simp) hb hl
    have lst := hL.rd h0 B (pre ++ P) rest [] 0 (by rw [hB]; simp) hb hl (by simp; omega)
    have hdn : code_rd.down ((lv : Int) - 1) 0 = (true, (lv : Int), 0) := by
      unfold code_rd.down
      rw [if_pos rfl, if_neg (by omega), Int.sub_add_cancel]
    refine Ev.step (fun m => code_rd.term.eq_2 ..) (LEv.pos ⟨by omega, by omega⟩ ?_)
    rw [hdn]
    refine LEv.pos rfl (LEv.eqb one ?_)
    have hkd : code_rd.kind x.f0 0 = 0 := by unfold code_rd.kind; rw [if_neg (by omega)]
    rw [hkd, show (pre.length : Int) + 1 = ((pre ++ [x.f0]).length : Int) by simp]
    refine LEv.bd _ num1 (LEv.eqb (zag _ n0 n1) ?_)
    rw [show (pre ++ [x.f0]).length + (enc (zz x.f1)).length = (pre ++ [x.f0] ++ enc (zz x.f1)).length by simp only [List.length_append], Int.sub_add_cancel]
    refine LEv.bd (x.f3, ((pre.length + (P ++ b).length : Nat) : Int), 0) (LEv.bd _ num2 ?_) (LEv.fin ?_)
    · rw [List.length_nil, Nat.zero_add, List.nil_append, show (pre ++ P).length + b.length = pre.length + (P ++ b).length by simp only [List.length_append, List.length_singleton, List.length_cons, List.length_nil]; omega, show (pre ++ P).length = (pre ++ [x.f0] ++ enc (zz x.f1)).length + (enc (x.f3.length : Int)).length by rw [hP]; simp only [List.length_append, List.length_singleton, List.length_cons, List.length_nil]; omega] at lst
      exact lst
    · rw [← hx]
theorem placed_self (a : T) : Fine a → Ev (fun m => notaryref06_Placed.f m a.f0 a.f1 a.f2 a.f3 a.f4 a.f5 a.f0 a.f1 a.f2 a.f3 a.f4 a.f5) true := by
  induction a using ind with
  | h a ih =>
  intro hF
  have hlen := hF.len
  have key : ∀ (rest pre : List T), a.f3 = pre ++ rest → Ev (fun m => notaryref06_Placed.l0 m (pre.length : Int) a.f0 a.f1 a.f2 a.f3 a.f4 a.f5 a.f0 a.f1 a.f2 a.f3 a.f4 a.f5) true := by
    intro rest
    induction rest with
    | nil => exact fun pre ha => Ev.step (fun m => notaryref06_Placed.l0.eq_2 ..) (LEv.neg (by rw [ha]; simp) (Ev.now _))
    | cons x rest ih2 =>
      intro pre ha
      have e1 : rd_T25 a.f3 (pre.length : Int) = x := by rw [ha]; exact rdT _ _ _
      have e3 : (pre.length : Int) < (a.f3.length : Int) := by rw [ha]; exact lenlt _ _ _
      refine Ev.step (fun m => notaryref06_Placed.l0.eq_2 ..) (LEv.pos e3 (LEv.pos (by omega) (LEv.pos e3 ?_)))
      rw [e1, up1 _ (by rw [ha] at hlen; simp at hlen; omega), ← len1 pre x]
      exact LEv.bd true (ih x (by rw [ha]; simp) (hF.sub (by rw [ha]; simp))) (LEv.pos rfl (ih2 (pre ++ [x]) (by rw [ha]; simp)))
  refine Ev.step (fun m => notaryref06_Placed.f.eq_2 ..) (LEv.pos rfl (LEv.pos rfl (LEv.pos rfl (LEv.pos rfl (LEv.pos rfl ?_)))))
  rw [show ((a.f3.length : Int) != (a.f3.length : Int)) = false by simp]
  exact Ev.step (fun m => notaryref06_Placed.j0.eq_2 ..) (LEv.neg (by decide) (key a.f3 [] rfl))
theorem awake_ev : Ev (fun m => notarylaw36_awake.f m) true := by
  have h : Ev (fun m => code_Term.f m 5 3 ⟨#[]⟩ [] 0 0) ([5, 6, 0], 0) := by
    refine Ev.congr (fun m => code_Term.f.eq_1 ..) (LEv.bd ([5, 6, 0], 0) ?_ (LEv.fin rfl))
    refine Ev.step (fun m => code_wr.term.eq_2 ..) (LEv.pos ⟨by decide, by decide, by decide⟩ (LEv.neg (fun h => h rfl) (LEv.neg (by decide) (LEv.neg (by decide) (LEv.neg (by simp [ByteArray.toList_eq]) ?_)))))
    refine LEv.eqb (zig 3 (by decide) (by decide)) (LEv.bd [6] (LEv.val (by decide) (bytes_ev 6 (by decide) (by decide))) (LEv.bd [0] (LEv.val (by decide) (bytes_ev 0 (by decide) (by decide))) (LEv.pos (by decide) (Ev.now _))))
  exact Ev.congr (fun m => notarylaw36_awake.f.eq_1 ..) (LEv.bd _ h (LEv.pos rfl (LEv.pos rfl (LEv.pos (by decide) (LEv.pos (by decide) (LEv.pos (by decide) (LEv.pos (by decide) (LEv.pos (by decide) (LEv.fin (by decide))))))))))
end Go.Proofs.Ytiamcmjdoobaeaa.LCd
