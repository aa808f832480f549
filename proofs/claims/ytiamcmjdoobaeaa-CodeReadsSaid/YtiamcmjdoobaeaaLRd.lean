/- Bytes as numbers, lists and terms, plainly: what both programs read, and that it has just those bytes. -/
import Derived.Test.YtiamcmjdoobaeaaLDv
import Derived.Test.YtiamcmjdoobaeaaPCex12
import Derived.Test.YtiamcmjdoobaeaaPCex13
namespace Go.Proofs.Ytiamcmjdoobaeaa.LRd
open Go.RowKit Go.Proofs.Ytiamcmjdoobaeaa.PCe Go.Proofs.YtiamcmjdoobaeaaW.PrintWords Go.Proofs.YtiamcmjdoobaeaaW.PrintLast Go.Proofs.YtiamcmjdoobaeaaW.PrintMore
open LTerm SVarint LVarint LCd LDv
set_option linter.unusedVariables false
set_option linter.unusedSimpArgs false
/-- bytes that are no more than may be read here -/
structure Fit (B : List Int) : Prop where
  byt : Byt B
  len : B.length ≤ 100000
theorem okL_nil : okL [] := fun n hn => by cases hn
/-- a piece of bytes from a place on -/
def cut (B : List Int) (p n : Nat) : List Int := (B.drop p).take n
theorem cut_cat (B : List Int) (p n m : Nat) : cut B p n ++ cut B (p + n) m = cut B p (n + m) := by
  unfold cut
  rw [List.take_add, List.drop_drop]
theorem getS_cases {B : List Int} (hB : Fit B) {p : Nat} (hp : p ≤ B.length) :
    (∃ e : Int, e ≠ 0 ∧ getS B (p : Int) = (0, 0, e)) ∨ (∃ (v : Int) (n : Nat), 0 ≤ v ∧ v < 18446744073709551616 ∧ 0 < n ∧ p + n ≤ B.length ∧ cut B p n = enc v ∧ getS B (p : Int) = (v, ((p + n : Nat) : Int), 0)) := by
  unfold getS
  rw [if_neg (by omega), Int.toNat_natCast]
  obtain ⟨⟨v, n, e⟩, hd⟩ : ∃ t, t = dec (B.drop p) 0 0 := ⟨_, rfl⟩
  rw [← hd]
  unfold got
  by_cases he : e = 0
  · subst he
    obtain ⟨h0, h1, h2, h3, h4⟩ := dec_is (B.drop p) (hB.byt.drop p) v n hd.symm
    have := enc_length v
    rw [List.length_drop] at h3
    exact .inr ⟨v, n, h0, h1, by omega, by omega, h4, by rw [if_pos rfl]; simp⟩
  · exact .inl ⟨e, he, by rw [if_neg he]⟩
theorem num_ev {B : List Int} (hB : Fit B) (p : Nat) : Ev (fun m => code_rd.number m B (p : Int) 0) (getS B (p : Int)) :=
  Ev.congr (f := fun m => varint_Get.f m B (p : Int)) (fun m => by unfold code_rd.number; rw [if_pos rfl]) (get_ev B (p : Int) (by have := hB.len; omega) hB.byt)
theorem num_err (B : List Int) (p e : Int) (h : e ≠ 0) : Ev (fun m => code_rd.number m B p e) (0, p, e) := by
  refine Ev.congr (f := fun m => some (0, p, e)) (fun m => ?_) (Ev.now _)
  unfold code_rd.number
  rw [if_neg h]
theorem rnum_ev {B : List Int} (hB : Fit B) (p : Nat) : Ev (fun m => notaryref01_Get.f m B (p : Int)) (getS B (p : Int)) := rget_ev B (p : Int) (by have := hB.len; omega) hB.byt
/-! ### Lists -/
theorem index_cases {B : List Int} (hB : Fit B) {p : Nat} (hp : p ≤ B.length) :
    (∃ e : Int, e ≠ 0 ∧ (∃ x q : Int, Ev (fun m => code_rr.index m B (p : Int) 0) (x, q, e)) ∧ Ev (fun m => notaryref36_Index.f m B (p : Int)) (0, 0, e)) ∨
    (∃ (v : Int) (n : Nat), okI v ∧ 0 < n ∧ p + n ≤ B.length ∧ cut B p n = enc v ∧ Ev (fun m => code_rr.index m B (p : Int) 0) (v, ((p + n : Nat) : Int), 0) ∧ Ev (fun m => notaryref36_Index.f m B (p : Int)) (v, ((p + n : Nat) : Int), 0)) := by
  have h1 := num_ev hB p
  have h2 := rnum_ev hB p
  rcases getS_cases hB hp with ⟨e, he, hg⟩ | ⟨v, n, v0, v1, n0, n1, hc, hg⟩
  · rw [hg] at h1 h2
    exact .inl ⟨e, he, ⟨_, _, Ev.congr (fun m => code_rr.index.eq_1 ..) (LEv.bd _ h1 (Ev.congr (fun m => by rw [if_neg (fun h => he h.1)]) (Ev.now _)))⟩, Ev.congr (fun m => notaryref36_Index.f.eq_1 ..) (LEv.bd _ h2 (LEv.neg he (Ev.now _)))⟩
  · rw [hg] at h1 h2
    by_cases hv : v > 2147483647
    · exact .inl ⟨13, by decide, ⟨_, _, Ev.congr (fun m => code_rr.index.eq_1 ..) (LEv.bd _ h1 (Ev.congr (fun m => by rw [if_pos ⟨rfl, hv⟩]) (Ev.now _)))⟩, Ev.congr (fun m => notaryref36_Index.f.eq_1 ..) (LEv.bd _ h2 (LEv.pos rfl (LEv.pos hv (Ev.now _))))⟩
    · refine .inr ⟨v, n, ⟨v0, by omega⟩, n0, n1, hc, Ev.congr (fun m => code_rr.index.eq_1 ..) (LEv.bd _ h1 (LEv.fin ?_)), Ev.congr (fun m => notaryref36_Index.f.eq_1 ..) (LEv.bd _ h2 (LEv.pos rfl (LEv.neg hv (LEv.fin ?_))))⟩
      · rw [if_neg (fun h => hv h.2), w64 _ (by omega) (by omega)]
      · rw [w64 _ (by omega) (by omega)]
theorem ints_cases {B : List Int} (hB : Fit B) (n : Int) (hn : n < 18446744073709551616) : ∀ (d p : Nat) (outs : List Int) (c : Nat), p ≤ B.length → B.length - p ≤ d → outs.length ≤ p → (outs.length : Int) ≤ n →
    (∃ e : Int, e ≠ 0 ∧ (∃ (l : List Int) (q : Int), Ev (fun m => code_rr.loopI (fun p e => code_rr.index (m + c) B p e) m n (p : Int) 0 outs) (l, q, e)) ∧ ∃ l : List Int, Ev (fun m => notaryref36_ReadList.l0 m B (p : Int) outs n (outs.length : Int)) (l, 0, e)) ∨
    (∃ (xs : List Int) (k : Nat), ((outs.length + xs.length : Nat) : Int) = n ∧ xs.length ≤ k ∧ okL xs ∧ p + k ≤ B.length ∧ cut B p k = fb xs ∧ Ev (fun m => code_rr.loopI (fun p e => code_rr.index (m + c) B p e) m n (p : Int) 0 outs) (outs ++ xs, ((p + k : Nat) : Int), 0) ∧ Ev (fun m => notaryref36_ReadList.l0 m B (p : Int) outs n (outs.length : Int)) (outs ++ xs, ((p + k : Nat) : Int), 0)) := by
  intro d
  induction d with
  | zero =>
    intro p outs c hp hd ho hon
    have hlB := hB.len
    by_cases hl : (outs.length : Int) < n
    · rcases index_cases hB hp with ⟨e, he, ⟨x, q, i1⟩, i2⟩ | ⟨v, k, hv, k0, k1, hc, i1, i2⟩
      · refine .inl ⟨e, he, ⟨_, _, Ev.step (fun m => code_rr.loopI.eq_2 ..) (LEv.pos ⟨hl, rfl⟩ (LEv.bd _ (Ev.congr (fun m => by rw [Nat.add_assoc]) (shift i1 (1 + c))) (LEv.pos (by omega) (stop _ _ _ _ he))))⟩, _, Ev.step (fun m => notaryref36_ReadList.l0.eq_2 ..) (LEv.pos hl (LEv.bd _ i2 (LEv.neg he (Ev.now _))))⟩
      · omega
    · refine .inr ⟨[], 0, by simp; omega, by simp, okL_nil, by omega, by simp [cut, fb], Ev.step (fun m => code_rr.loopI.eq_2 ..) (LEv.neg (fun h => hl h.1) (LEv.fin (by simp))), Ev.step (fun m => notaryref36_ReadList.l0.eq_2 ..) (LEv.neg hl (LEv.fin (by simp)))⟩
  | succ d ih =>
    intro p outs c hp hd ho hon
    have hlB := hB.len
    by_cases hl : (outs.length : Int) < n
    · rcases index_cases hB hp with ⟨e, he, ⟨x, q, i1⟩, i2⟩ | ⟨v, k, hv, k0, k1, hc, i1, i2⟩
      · refine .inl ⟨e, he, ⟨_, _, Ev.step (fun m => code_rr.loopI.eq_2 ..) (LEv.pos ⟨hl, rfl⟩ (LEv.bd _ (Ev.congr (fun m => by rw [Nat.add_assoc]) (shift i1 (1 + c))) (LEv.pos (by omega) (stop _ _ _ _ he))))⟩, _, Ev.step (fun m => notaryref36_ReadList.l0.eq_2 ..) (LEv.pos hl (LEv.bd _ i2 (LEv.neg he (Ev.now _))))⟩
      · have hup : IntKind.u64.wrap ((outs.length : Int) + 1) = ((outs ++ [v]).length : Int) := by rw [u64w]; simp; omega
        have s1 : ∀ r, Ev (fun m => code_rr.loopI (fun p e => code_rr.index (m + (c + 1)) B p e) m n ((p + k : Nat) : Int) 0 (outs ++ [v])) r → Ev (fun m => code_rr.loopI (fun p e => code_rr.index (m + c) B p e) m n (p : Int) 0 outs) r := fun r g =>
          Ev.step (fun m => code_rr.loopI.eq_2 ..) (LEv.pos ⟨hl, rfl⟩ (LEv.bd _ (Ev.congr (fun m => by rw [Nat.add_assoc]) (shift i1 (1 + c))) (LEv.pos (by omega) (Ev.congr (fun m => by rw [Nat.add_assoc, Nat.add_comm 1 c]) g))))
        have s2 : ∀ r, Ev (fun m => notaryref36_ReadList.l0 m B ((p + k : Nat) : Int) (outs ++ [v]) n ((outs ++ [v]).length : Int)) r → Ev (fun m => notaryref36_ReadList.l0 m B (p : Int) outs n (outs.length : Int)) r := fun r g => by
          refine Ev.step (fun m => notaryref36_ReadList.l0.eq_2 ..) (LEv.pos hl (LEv.bd _ i2 (LEv.pos rfl (LEv.pos (by omega) ?_))))
          rw [hup]
          exact g
        rcases ih (p + k) (outs ++ [v]) (c + 1) k1 (by omega) (by simp; omega) (by simp; omega) with ⟨e, he, ⟨l, q, j1⟩, l', j2⟩ | ⟨xs, j, x1, x2, x3, x4, x5, j1, j2⟩
        · exact .inl ⟨e, he, ⟨l, q, s1 _ j1⟩, l', s2 _ j2⟩
        · refine .inr ⟨v :: xs, k + j, by simp at x1 ⊢; omega, by simp; omega, fun x hx => by rcases List.mem_cons.1 hx with rfl | hx; exact hv; exact x3 x hx, by omega, by rw [← cut_cat, hc, x5, fb_cons], s1 _ ?_, s2 _ ?_⟩
          · have := j1; rw [show p + k + j = p + (k + j) by omega, List.append_assoc] at this; exact this
          · have := j2; rw [show p + k + j = p + (k + j) by omega, List.append_assoc] at this; exact this
    · refine .inr ⟨[], 0, by simp; omega, by simp, okL_nil, by omega, by simp [cut, fb], Ev.step (fun m => code_rr.loopI.eq_2 ..) (LEv.neg (fun h => hl h.1) (LEv.fin (by simp))), Ev.step (fun m => notaryref36_ReadList.l0.eq_2 ..) (LEv.neg hl (LEv.fin (by simp)))⟩
where stop {g : Nat → Int → Int → Option (Int × Int × Int)} (n q e : Int) (l : List Int) (h : e ≠ 0) : Ev (fun m => code_rr.loopI (g m) m n q e l) (l, q, e) :=
        Ev.step (fun m => code_rr.loopI.eq_2 ..) (LEv.neg (fun h2 => h h2.2) (Ev.now _))
theorem many_err (B : List Int) (p e : Int) (h : e ≠ 0) : Ev (fun m => code_rr.manyI (code_rr.index m B) m B p e) ([], p, e) :=
  Ev.congr (fun m => code_rr.manyI.eq_1 ..) (LEv.bd _ (num_err B p e h) (Ev.step (fun m => code_rr.loopI.eq_2 ..) (LEv.neg (fun h2 => h h2.2) (Ev.now _))))
theorem list_cases {B : List Int} (hB : Fit B) {p : Nat} (hp : p ≤ B.length) :
    (∃ e : Int, e ≠ 0 ∧ (∃ (l : List Int) (q : Int), Ev (fun m => code_rr.manyI (code_rr.index m B) m B (p : Int) 0) (l, q, e)) ∧ ∃ l : List Int, Ev (fun m => notaryref36_ReadList.f m B (p : Int)) (l, 0, e)) ∨
    (∃ (l : List Int) (k : Nat), okL l ∧ l.length < k ∧ p + k ≤ B.length ∧ cut B p k = lb l ∧ Ev (fun m => code_rr.manyI (code_rr.index m B) m B (p : Int) 0) (l, ((p + k : Nat) : Int), 0) ∧ Ev (fun m => notaryref36_ReadList.f m B (p : Int)) (l, ((p + k : Nat) : Int), 0)) := by
  have h1 := num_ev hB p
  have h2 := rnum_ev hB p
  rcases getS_cases hB hp with ⟨e, he, hg⟩ | ⟨v, n, v0, v1, n0, n1, hc, hg⟩
  · rw [hg] at h1 h2
    exact .inl ⟨e, he, ⟨_, _, Ev.congr (fun m => code_rr.manyI.eq_1 ..) (LEv.bd _ h1 (Ev.step (fun m => code_rr.loopI.eq_2 ..) (LEv.neg (fun h => he h.2) (Ev.now _))))⟩, _, Ev.congr (fun m => notaryref36_ReadList.f.eq_1 ..) (LEv.sb (LEv.bd _ h2 (LEv.neg he (Ev.now _))))⟩
  · rw [hg] at h1 h2
    rcases ints_cases hB v v1 (B.length - (p + n)) (p + n) [] 0 n1 (Nat.le_refl _) (Nat.zero_le _) (by simpa using v0) with ⟨e, he, ⟨l, q, j1⟩, l', j2⟩ | ⟨xs, j, x1, x2, x3, x4, x5, j1, j2⟩
    · exact .inl ⟨e, he, ⟨l, q, Ev.congr (fun m => code_rr.manyI.eq_1 ..) (LEv.bd _ h1 j1)⟩, l', Ev.congr (fun m => notaryref36_ReadList.f.eq_1 ..) (LEv.sb (LEv.bd _ h2 (LEv.pos rfl j2)))⟩
    · refine .inr ⟨xs, n + j, x3, by omega, by omega, ?_, Ev.congr (fun m => code_rr.manyI.eq_1 ..) (LEv.bd _ h1 ?_), Ev.congr (fun m => notaryref36_ReadList.f.eq_1 ..) (LEv.sb (LEv.bd _ h2 (LEv.pos rfl ?_)))⟩
      · rw [← cut_cat, hc, x5]
        unfold lb
        rw [← x1]
        simp
      · rw [show p + (n + j) = p + n + j by omega]; exact j1
      · rw [show p + (n + j) = p + n + j by omega]; exact j2
/-! ### Terms -/
def zg (v : Int) : Int := if v % 2 = 0 then v / 2 else -1 - v / 2
theorem zg_ev (v : Int) (h0 : 0 ≤ v) (h1 : v < 18446744073709551616) : varint_Zag.f v = some (zg v) := by
  unfold zg
  split
  · exact zag_even v h0 h1 (by assumption)
  · exact zag_odd v h0 h1 (by omega)
theorem rzg_ev (v : Int) (h0 : 0 ≤ v) (h1 : v < 18446744073709551616) : notaryref01_Zag.f v = some (zg v) := by
  unfold notaryref01_Zag.f zg
  rw [Int.tmod_eq_emod_of_nonneg h0, Int.tdiv_eq_ediv_of_nonneg h0, u64w]
  by_cases h : v % 2 = 0
  · rw [if_pos h, if_pos h, w64 _ (by omega) (by omega)]; congr 1; omega
  · rw [if_neg h, if_neg h]
    congr 1
    unfold wrap64
    omega
theorem zz_zg (v : Int) (h0 : 0 ≤ v) (h1 : v < 18446744073709551616) : zz (zg v) = v ∧ -9223372036854775808 ≤ zg v ∧ zg v < 9223372036854775808 := by
  unfold zz zg
  split <;> split <;> omega
theorem term_err (B : List Int) (lv p e : Int) (h : e ≠ 0) (hl : -1000000 ≤ lv ∧ lv ≤ 900000) (hb : B.length < 1000000000000) : Ev (fun m => code_rd.term m B lv p e) (⟨0, 0, ⟨#[]⟩, [], 0, 0⟩, p, e) := by
  refine Ev.step (fun m => code_rd.term.eq_2 ..) (LEv.pos ⟨hl, hb⟩ ?_)
  have : code_rd.down lv e = (false, lv + 1, e) := by unfold code_rd.down; rw [if_neg h]
  rw [this]
  exact LEv.neg (by simp) (Ev.now _)
/-- what is read as a term on a level from a place on -/
def TC (B : List Int) (p lv : Nat) : Prop :=
    (∃ e : Int, e ≠ 0 ∧ (∃ (x : T) (q : Int), Ev (fun m => code_rd.term m B ((lv : Int) - 1) (p : Int) 0) (x, q, e)) ∧ Ev (fun m => notaryref36_ReadTerm.f m B (p : Int) (lv : Int)) (0, 0, ⟨#[]⟩, [], 0, 0, 0, e)) ∨
    (∃ (x : T) (k : Nat), LCd.Good lv x ∧ Tame (66 - lv) x ∧ Num x ∧ sz x ≤ k ∧ p + k ≤ B.length ∧ cut B p k = tb x ∧ Ev (fun m => code_rd.term m B ((lv : Int) - 1) (p : Int) 0) (x, ((p + k : Nat) : Int), 0) ∧ Ev (fun m => notaryref36_ReadTerm.f m B (p : Int) (lv : Int)) (x.f0, x.f1, x.f2, x.f3, x.f4, x.f5, ((p + k : Nat) : Int), 0))
theorem sz_pos (x : T) : 1 ≤ sz x := by rw [sz_eq]; omega
theorem terms_cases {B : List Int} (hB : Fit B) (lv : Nat) (hlv : 1 ≤ lv ∧ lv ≤ 64) (K N : Int) (f2 : ByteArray) (f4 f5 : Int) (ih : ∀ p, p ≤ B.length → TC B p (lv + 1)) (n : Int) (hn : n < 18446744073709551616) : ∀ (d p : Nat) (outs : List T) (c : Nat), p ≤ B.length → B.length - p ≤ d → outs.length ≤ p → (outs.length : Int) ≤ n →
    (∃ e : Int, e ≠ 0 ∧ (∃ (l : List T) (q : Int), Ev (fun m => code_rd.loop (fun p e => code_rd.term (m + c) B (lv : Int) p e) m n (p : Int) 0 outs) (l, q, e)) ∧ Ev (fun m => notaryref36_ReadTerm.l0 m B (p : Int) (lv : Int) n (outs.length : Int) K N f2 outs f4 f5) (0, 0, ⟨#[]⟩, [], 0, 0, 0, e)) ∨
    (∃ (xs : List T) (k : Nat), ((outs.length + xs.length : Nat) : Int) = n ∧ (xs.map sz).sum ≤ k ∧ (∀ y ∈ xs, LCd.Good (lv + 1) y ∧ Tame (66 - (lv + 1)) y ∧ Num y) ∧ p + k ≤ B.length ∧ cut B p k = (xs.map tb).flatten ∧ Ev (fun m => code_rd.loop (fun p e => code_rd.term (m + c) B (lv : Int) p e) m n (p : Int) 0 outs) (outs ++ xs, ((p + k : Nat) : Int), 0) ∧ Ev (fun m => notaryref36_ReadTerm.l0 m B (p : Int) (lv : Int) n (outs.length : Int) K N f2 outs f4 f5) (K, N, f2, outs ++ xs, f4, f5, ((p + k : Nat) : Int), 0)) := by
  intro d
  induction d with
  | zero =>
    intro p outs c hp hd ho hon
    have hlB := hB.len
    by_cases hl : (outs.length : Int) < n
    · rcases ih p hp with ⟨e, he, ⟨x, q, i1⟩, i2⟩ | ⟨x, k, g1, g2, g3, k0, k1, hc, i1, i2⟩
      · exact .inl (bad p outs c hl (by omega) e he x q i1 i2)
      · have := sz_pos x; omega
    · exact .inr (done p outs c hl hon hp)
  | succ d ihd =>
    intro p outs c hp hd ho hon
    have hlB := hB.len
    by_cases hl : (outs.length : Int) < n
    · rcases ih p hp with ⟨e, he, ⟨x, q, i1⟩, i2⟩ | ⟨x, k, g1, g2, g3, k0, k1, hc, i1, i2⟩
      · exact .inl (bad p outs c hl (by omega) e he x q i1 i2)
      · have hz := sz_pos x
        have hup : IntKind.u64.wrap ((outs.length : Int) + 1) = ((outs ++ [x]).length : Int) := by rw [u64w]; simp; omega
        have i1' : Ev (fun m => code_rd.term m B (lv : Int) (p : Int) 0) (x, ((p + k : Nat) : Int), 0) := by rw [show (((lv + 1 : Nat) : Int) - 1) = (lv : Int) by omega] at i1; exact i1
        have s1 : ∀ r, Ev (fun m => code_rd.loop (fun p e => code_rd.term (m + (c + 1)) B (lv : Int) p e) m n ((p + k : Nat) : Int) 0 (outs ++ [x])) r → Ev (fun m => code_rd.loop (fun p e => code_rd.term (m + c) B (lv : Int) p e) m n (p : Int) 0 outs) r := fun r g =>
          Ev.step (fun m => code_rd.loop.eq_2 ..) (LEv.pos ⟨hl, rfl⟩ (LEv.bd _ (Ev.congr (fun m => by rw [Nat.add_assoc]) (shift i1' (1 + c))) (LEv.pos (by omega) (Ev.congr (fun m => by rw [Nat.add_assoc, Nat.add_comm 1 c]) g))))
        have s2 : ∀ r, Ev (fun m => notaryref36_ReadTerm.l0 m B ((p + k : Nat) : Int) (lv : Int) n ((outs ++ [x]).length : Int) K N f2 (outs ++ [x]) f4 f5) r → Ev (fun m => notaryref36_ReadTerm.l0 m B (p : Int) (lv : Int) n (outs.length : Int) K N f2 outs f4 f5) r := fun r g => by
          refine Ev.step (fun m => notaryref36_ReadTerm.l0.eq_2 ..) (LEv.pos hl ?_)
          rw [up1 lv (by omega)]
          refine LEv.bd _ i2 (LEv.pos rfl (LEv.pos (by omega) ?_))
          rw [hup]
          show Ev (fun m => notaryref36_ReadTerm.l0 m B ((p + k : Nat) : Int) (lv : Int) n ((outs ++ [x]).length : Int) K N f2 (outs ++ [⟨x.f0, x.f1, x.f2, x.f3, x.f4, x.f5⟩]) f4 f5) r
          rw [etaT]
          exact g
        rcases ihd (p + k) (outs ++ [x]) (c + 1) k1 (by omega) (by simp; omega) (by simp; omega) with ⟨e, he, ⟨l, q, j1⟩, j2⟩ | ⟨xs, j, x1, x2, x3, x4, x5, j1, j2⟩
        · exact .inl ⟨e, he, ⟨l, q, s1 _ j1⟩, s2 _ j2⟩
        · refine .inr ⟨x :: xs, k + j, by simp at x1 ⊢; omega, by simp; omega, fun y hy => by rcases List.mem_cons.1 hy with rfl | hy; exact ⟨g1, g2, g3⟩; exact x3 y hy, by omega, by rw [← cut_cat, hc, x5]; simp, s1 _ ?_, s2 _ ?_⟩
          · have := j1; rw [show p + k + j = p + (k + j) by omega, List.append_assoc] at this; exact this
          · have := j2; rw [show p + k + j = p + (k + j) by omega, List.append_assoc] at this; exact this
    · exact .inr (done p outs c hl hon hp)
where
  bad (p : Nat) (outs : List T) (c : Nat) (hl : (outs.length : Int) < n) (ho : outs.length < 1000000000) (e : Int) (he : e ≠ 0) (x : T) (q : Int) (i1 : Ev (fun m => code_rd.term m B (((lv + 1 : Nat) : Int) - 1) (p : Int) 0) (x, q, e)) (i2 : Ev (fun m => notaryref36_ReadTerm.f m B (p : Int) ((lv + 1 : Nat) : Int)) (0, 0, ⟨#[]⟩, [], 0, 0, 0, e)) :
      ∃ e : Int, e ≠ 0 ∧ (∃ (l : List T) (q : Int), Ev (fun m => code_rd.loop (fun p e => code_rd.term (m + c) B (lv : Int) p e) m n (p : Int) 0 outs) (l, q, e)) ∧ Ev (fun m => notaryref36_ReadTerm.l0 m B (p : Int) (lv : Int) n (outs.length : Int) K N f2 outs f4 f5) (0, 0, ⟨#[]⟩, [], 0, 0, 0, e) := by
    have i1' : Ev (fun m => code_rd.term m B (lv : Int) (p : Int) 0) (x, q, e) := by rw [show (((lv + 1 : Nat) : Int) - 1) = (lv : Int) by omega] at i1; exact i1
    refine ⟨e, he, ⟨_, _, Ev.step (fun m => code_rd.loop.eq_2 ..) (LEv.pos ⟨hl, rfl⟩ (LEv.bd _ (Ev.congr (fun m => by rw [Nat.add_assoc]) (shift i1' (1 + c))) (LEv.pos ho (Ev.step (fun m => code_rd.loop.eq_2 ..) (LEv.neg (fun h2 => he h2.2) (Ev.now _))))))⟩, Ev.step (fun m => notaryref36_ReadTerm.l0.eq_2 ..) (LEv.pos hl ?_)⟩
    rw [up1 lv (by omega)]
    exact LEv.bd _ i2 (LEv.neg he (Ev.now _))
  done (p : Nat) (outs : List T) (c : Nat) (hl : ¬ (outs.length : Int) < n) (hon : (outs.length : Int) ≤ n) (hp : p ≤ B.length) :
      ∃ (xs : List T) (k : Nat), ((outs.length + xs.length : Nat) : Int) = n ∧ (xs.map sz).sum ≤ k ∧ (∀ y ∈ xs, LCd.Good (lv + 1) y ∧ Tame (66 - (lv + 1)) y ∧ Num y) ∧ p + k ≤ B.length ∧ cut B p k = (xs.map tb).flatten ∧ Ev (fun m => code_rd.loop (fun p e => code_rd.term (m + c) B (lv : Int) p e) m n (p : Int) 0 outs) (outs ++ xs, ((p + k : Nat) : Int), 0) ∧ Ev (fun m => notaryref36_ReadTerm.l0 m B (p : Int) (lv : Int) n (outs.length : Int) K N f2 outs f4 f5) (K, N, f2, outs ++ xs, f4, f5, ((p + k : Nat) : Int), 0) :=
    ⟨[], 0, by simp; omega, by simp, (fun y hy => by cases hy), by omega, by simp [cut], Ev.step (fun m => code_rd.loop.eq_2 ..) (LEv.neg (fun h => hl h.1) (LEv.fin (by simp))), Ev.step (fun m => notaryref36_ReadTerm.l0.eq_2 ..) (LEv.neg hl (LEv.fin (by simp)))⟩
theorem sz_len : ∀ l : List T, l.length ≤ (l.map sz).sum
  | [] => by simp
  | a :: l => by have := sz_len l; have := sz_pos a; simp; omega
theorem term_cases {B : List Int} (hB : Fit B) : ∀ (g lv p : Nat), 65 - lv ≤ g → 1 ≤ lv → lv ≤ 65 → p ≤ B.length → TC B p lv := by
  intro g
  induction g with
  | zero =>
    intro lv p hg h1 h2 hp
    obtain rfl : lv = 65 := by omega
    refine .inl ⟨7, by decide, ⟨⟨0, 0, ⟨#[]⟩, [], 0, 0⟩, (p : Int), Ev.step (fun m => code_rd.term.eq_2 ..) (LEv.pos ⟨by omega, by have := hB.len; omega⟩ (LEv.neg (by decide) (Ev.now _)))⟩, Ev.step (fun m => notaryref36_ReadTerm.f.eq_2 ..) (LEv.pos (by decide) (Ev.now _))⟩
  | succ g ih =>
    intro lv p hg h1 h2 hp
    have hlB := hB.len
    by_cases h65 : lv = 65
    · exact ih lv p (by omega) h1 h2 hp
    have hdn : code_rd.down ((lv : Int) - 1) 0 = (true, (lv : Int), 0) := by
      unfold code_rd.down
      rw [if_pos rfl, if_neg (by omega), Int.sub_add_cancel]
    -- the program, behind its level
    have pin : ∀ r : T × Int × Int, Ev (fun m => (code_rd.one B (p : Int) 0).bind fun q => (code_rd.number m B q.2.1 (code_rd.kind q.1 q.2.2)).bind fun n => (varint_Zag.f n.1).bind fun N => (code_rd.many (code_rd.term m B (lv : Int)) m B n.2.1 n.2.2).bind fun l => some (⟨q.1, N, ⟨#[]⟩, l.1, 0, 0⟩, l.2.1, l.2.2)) r → Ev (fun m => code_rd.term m B ((lv : Int) - 1) (p : Int) 0) r := fun r k => by
      refine Ev.step (fun m => code_rd.term.eq_2 ..) (LEv.pos ⟨by omega, by omega⟩ ?_)
      rw [hdn, Int.sub_add_cancel]
      exact LEv.pos rfl k
    -- what is wrong ahead of the number
    have perr : ∀ (K q e : Int), e ≠ 0 → ∃ (x : T) (q' : Int), Ev (fun m => (code_rd.number m B q e).bind fun n => (varint_Zag.f n.1).bind fun N => (code_rd.many (code_rd.term m B (lv : Int)) m B n.2.1 n.2.2).bind fun l => some ((⟨K, N, ⟨#[]⟩, l.1, 0, 0⟩ : T), l.2.1, l.2.2)) (x, q', e) := fun K q e he =>
      ⟨_, _, LEv.bd _ (num_err B q e he) (LEv.eqb (zg_ev 0 (by decide) (by decide)) (LEv.bd ([], q, e) (Ev.congr (fun m => code_rd.many.eq_1 ..) (LEv.bd _ (num_err B q e he) (Ev.step (fun m => code_rd.loop.eq_2 ..) (LEv.neg (fun h2 => he h2.2) (Ev.now _))))) (Ev.now _)))⟩
    by_cases hpl : p = B.length
    · have one : code_rd.one B (p : Int) 0 = some (0, (p : Int), 1) := by
        unfold code_rd.one
        rw [if_pos rfl, if_pos (by omega)]
      obtain ⟨x, q, hx⟩ := perr 0 (p : Int) 1 (by decide)
      refine .inl ⟨1, by decide, ⟨x, q, pin _ (LEv.eqb one ?_)⟩, Ev.step (fun m => notaryref36_ReadTerm.f.eq_2 ..) (LEv.neg (by omega) (LEv.pos (by omega) (Ev.now _)))⟩
      have : code_rd.kind 0 1 = 1 := by unfold code_rd.kind; rw [if_neg (by decide)]
      rw [this]
      exact hx
    have hpl2 : p < B.length := by omega
    obtain ⟨K, hK⟩ : ∃ K, K = B[p] := ⟨_, rfl⟩
    have hKb := hB.byt.at_ p hpl2
    rw [← hK] at hKb
    have hrd : rd B (p : Int) = K := by
      unfold rd
      rw [Int.toNat_natCast, List.getD_eq_getElem?_getD, List.getElem?_eq_getElem hpl2, Option.getD_some, hK]
    have one : code_rd.one B (p : Int) 0 = some (K, ((p + 1 : Nat) : Int), 0) := by
      unfold code_rd.one
      rw [if_pos rfl, if_neg (by omega), if_pos (by omega), hrd, w64 _ (by omega) (by omega)]
      simp
    have hc1 : cut B p 1 = [K] := by
      unfold cut
      rw [List.drop_eq_getElem_cons hpl2, ← hK]
      rfl
    have rin : ∀ r, Ev (fun m => notaryref36_ReadTerm.j0 m B (p : Int) (lv : Int) (decide (K < 1 ∨ K > 36)) K 0 ⟨#[]⟩ 0 0) r → Ev (fun m => notaryref36_ReadTerm.f m B (p : Int) (lv : Int)) r := fun r k => by
      refine Ev.step (fun m => notaryref36_ReadTerm.f.eq_2 ..) (LEv.neg (by omega) (LEv.neg (by omega) (LEv.pos (by omega) (LEv.pos (by omega) ?_))))
      rw [hrd, w64 K (by omega) (by omega)]
      refine LEv.ite (fun h => ?_) (fun h => ?_)
      · rw [decide_eq_true (.inl h)] at k; exact k
      · rw [show decide (K < 1 ∨ K > 36) = decide (K > 36) by simp [h]] at k; exact k
    by_cases hk : K < 1 ∨ K > 36
    · have hkd : code_rd.kind K 0 = 23 := if_pos ⟨rfl, hk⟩
      obtain ⟨x, q, hx⟩ := perr K ((p + 1 : Nat) : Int) 23 (by decide)
      refine .inl ⟨23, by decide, ⟨x, q, pin _ (LEv.eqb one (by rw [hkd]; exact hx))⟩, rin _ ?_⟩
      rw [decide_eq_true hk]
      exact Ev.step (fun m => notaryref36_ReadTerm.j0.eq_2 ..) (LEv.pos rfl (Ev.now _))
    have hkd : code_rd.kind K 0 = 0 := if_neg (fun h => hk h.2)
    have hup : wrap64 ((p : Int) + 1) = ((p + 1 : Nat) : Int) := up1 p (by omega)
    have n1 := num_ev hB (p + 1)
    have r1 := rnum_ev hB (p + 1)
    have rin2 : ∀ r, Ev (fun m => (notaryref01_Get.f m B ((p + 1 : Nat) : Int)).bind fun bt174 => (if bt174.2.2 = 0 then ((notaryref01_Zag.f bt174.1).bind fun t177 => ((notaryref01_Get.f m B bt174.2.1).bind fun bt178 => (if bt178.2.2 = 0 then (notaryref36_ReadTerm.l0 m B bt178.2.1 (lv : Int) bt178.1 0 K t177 ⟨#[]⟩ ([] : List T) 0 0) else (some (0, 0, (⟨#[]⟩ : ByteArray), ([] : List T), 0, 0, 0, bt178.2.2))))) else (some (0, 0, (⟨#[]⟩ : ByteArray), ([] : List T), 0, 0, 0, bt174.2.2)))) r → Ev (fun m => notaryref36_ReadTerm.f m B (p : Int) (lv : Int)) r := fun r k => by
      refine rin r (Ev.step (fun m => notaryref36_ReadTerm.j0.eq_2 ..) (LEv.neg (by simpa using hk) ?_))
      rw [hup]
      exact k
    have pin2 : ∀ r : T × Int × Int, Ev (fun m => (code_rd.number m B ((p + 1 : Nat) : Int) 0).bind fun n => (varint_Zag.f n.1).bind fun N => (code_rd.many (code_rd.term m B (lv : Int)) m B n.2.1 n.2.2).bind fun l => some (⟨K, N, ⟨#[]⟩, l.1, 0, 0⟩, l.2.1, l.2.2)) r → Ev (fun m => code_rd.term m B ((lv : Int) - 1) (p : Int) 0) r := fun r k => pin r (LEv.eqb one (by rw [hkd]; exact k))
    rcases getS_cases hB (show p + 1 ≤ B.length by omega) with ⟨e, he, hg⟩ | ⟨v, n, v0, v1, n0, n1', hc, hg⟩
    · rw [hg] at n1 r1
      refine .inl ⟨e, he, ⟨_, _, pin2 _ (LEv.bd _ n1 (LEv.eqb (zg_ev 0 (by decide) (by decide)) (LEv.bd ([], 0, e) (Ev.congr (fun m => code_rd.many.eq_1 ..) (LEv.bd _ (num_err B 0 e he) (Ev.step (fun m => code_rd.loop.eq_2 ..) (LEv.neg (fun h2 => he h2.2) (Ev.now _))))) (Ev.now _))))⟩, rin2 _ (LEv.bd _ r1 (LEv.neg he (Ev.now _)))⟩
    rw [hg] at n1 r1
    obtain ⟨z1, z2, z3⟩ := zz_zg v v0 v1
    have n2 := num_ev hB (p + 1 + n)
    have r2 := rnum_ev hB (p + 1 + n)
    rcases getS_cases hB (show p + 1 + n ≤ B.length by omega) with ⟨e, he, hg2⟩ | ⟨u, m, u0, u1, m0, m1, hc2, hg2⟩
    · rw [hg2] at n2 r2
      refine .inl ⟨e, he, ⟨_, _, pin2 _ (LEv.bd _ n1 (LEv.eqb (zg_ev v v0 v1) (LEv.bd ([], 0, e) (Ev.congr (fun m => code_rd.many.eq_1 ..) (LEv.bd _ n2 (Ev.step (fun m => code_rd.loop.eq_2 ..) (LEv.neg (fun h2 => he h2.2) (Ev.now _))))) (Ev.now _))))⟩, rin2 _ (LEv.bd _ r1 (LEv.pos rfl (LEv.eqb (rzg_ev v v0 v1) (LEv.bd _ r2 (LEv.neg he (Ev.now _))))))⟩
    rw [hg2] at n2 r2
    rcases terms_cases hB lv (by omega) K (zg v) ⟨#[]⟩ 0 0 (fun p hp => ih (lv + 1) p (by omega) (by omega) (by omega) hp) u u1 (B.length - (p + 1 + n + m)) (p + 1 + n + m) [] 0 m1 (Nat.le_refl _) (Nat.zero_le _) (by simpa using u0) with ⟨e, he, ⟨l, q, j1⟩, j2⟩ | ⟨xs, j, x1, x2, x3, x4, x5, j1, j2⟩
    · exact .inl ⟨e, he, ⟨_, _, pin2 _ (LEv.bd _ n1 (LEv.eqb (zg_ev v v0 v1) (LEv.bd _ (Ev.congr (fun m => code_rd.many.eq_1 ..) (LEv.bd _ n2 j1)) (Ev.now _))))⟩, rin2 _ (LEv.bd _ r1 (LEv.pos rfl (LEv.eqb (rzg_ev v v0 v1) (LEv.bd _ r2 (LEv.pos rfl j2)))))⟩
    · have e0 : ByteArray.toList ⟨#[]⟩ = [] := by rw [ByteArray.toList_eq]
      have hs := sz_len xs
      simp only [List.length_nil, Nat.zero_add] at x1
      refine .inr ⟨⟨K, zg v, ⟨#[]⟩, xs, 0, 0⟩, 1 + n + m + j, LCd.Good.mk lv _ (by omega) (by show 1 ≤ K ∧ K ≤ 36; omega) ⟨e0, rfl, rfl⟩ (fun y hy => (x3 y hy).1), ?_, Num.mk _ ⟨z2, z3⟩ (fun y hy => (x3 y hy).2.2), ?_, by omega, ?_, pin2 _ (LEv.bd _ n1 (LEv.eqb (zg_ev v v0 v1) (LEv.bd (xs, ((p + (1 + n + m + j) : Nat) : Int), 0) (Ev.congr (fun m => code_rd.many.eq_1 ..) (LEv.bd _ n2 ?_)) (Ev.now _)))), rin2 _ (LEv.bd _ r1 (LEv.pos rfl (LEv.eqb (rzg_ev v v0 v1) (LEv.bd _ r2 (LEv.pos rfl ?_)))))⟩
      · rw [show 66 - lv = (66 - (lv + 1)) + 1 by omega]
        exact Tame.mk _ _ (by show xs.length ≤ 100000; omega) (fun y hy => (x3 y hy).2.1)
      · rw [sz_eq]
        show 1 + (xs.map sz).sum ≤ _
        omega
      · rw [tb_eq, show (1 + n + m + j) = 1 + (n + (m + j)) by omega, ← cut_cat, ← cut_cat, ← cut_cat, hc1, hc, hc2, x5]
        show _ = [K] ++ enc (zz (zg v)) ++ enc (xs.length : Int) ++ (xs.map tb).flatten
        rw [z1, x1]
        simp
      · rw [show p + (1 + n + m + j) = p + 1 + n + m + j by omega]
        exact j1
      · rw [show p + (1 + n + m + j) = p + 1 + n + m + j by omega]
        exact j2
end Go.Proofs.Ytiamcmjdoobaeaa.LRd
