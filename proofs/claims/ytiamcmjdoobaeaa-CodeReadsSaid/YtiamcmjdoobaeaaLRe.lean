/- Bytes as steps and derivations, plainly: what both programs read, and that it has just those bytes. -/
import Derived.Test.YtiamcmjdoobaeaaLRd
import Derived.Test.YtiamcmjdoobaeaaLDw
import Derived.Test.YtiamcmjdoobaeaaPCex14
namespace Go.Proofs.Ytiamcmjdoobaeaa.LRd
open Go.RowKit Go.Proofs.Ytiamcmjdoobaeaa.PCe Go.Proofs.YtiamcmjdoobaeaaW.PrintWords Go.Proofs.YtiamcmjdoobaeaaW.PrintLast Go.Proofs.YtiamcmjdoobaeaaW.PrintMore
open LTerm SVarint LVarint LCd LDv
set_option linter.unusedVariables false
set_option linter.unusedSimpArgs false
/-- what the reference answers of a step -/
def rsv (s : S) (p e : Int) : Int × Bool × List Int × List Int × Int × Int × ByteArray × List T × Int × Int × Int × Int := (s.f0, s.f1, s.f2, s.f3, s.f4.f0, s.f4.f1, s.f4.f2, s.f4.f3, s.f4.f4, s.f4.f5, p, e)
def zS : S := ⟨0, false, [], [], ⟨0, 0, ⟨#[]⟩, [], 0, 0⟩⟩
@[reducible] def zD : D := ⟨0, [], ⟨0, false, [], [], ⟨0, 0, ⟨#[]⟩, [], 0, 0⟩⟩, []⟩
theorem byte_at {B : List Int} (hB : Fit B) {p : Nat} (hp : p < B.length) : ∃ K, 0 ≤ K ∧ K < 256 ∧ rd B (p : Int) = K ∧ cut B p 1 = [K] ∧ code_rd.one B (p : Int) 0 = some (K, ((p + 1 : Nat) : Int), 0) := by
  have hKb := hB.byt.at_ p hp
  have hrd : rd B (p : Int) = B[p] := by
    unfold rd
    rw [Int.toNat_natCast, List.getD_eq_getElem?_getD, List.getElem?_eq_getElem hp, Option.getD_some]
  refine ⟨B[p], hKb.1, hKb.2, hrd, ?_, ?_⟩
  · unfold cut
    rw [List.drop_eq_getElem_cons hp]
    rfl
  · unfold code_rd.one
    rw [if_pos rfl, if_neg (by omega), if_pos (by omega), hrd, w64 _ (by omega) (by omega)]
    simp
theorem one_end (B : List Int) : code_rd.one B (B.length : Int) 0 = some (0, (B.length : Int), 1) := by
  unfold code_rd.one
  rw [if_pos rfl, if_pos (by omega)]
/-- what follows in a step, once something is wrong -/
theorem step_err {B : List Int} (hB : Fit B) (ru bk : Int) (l4 : List Int) (q e : Int) (he : e ≠ 0) : ∃ (x : S) (q' : Int), Ev (fun m => (code_rr.manyI (code_rr.index m B) m B q e).bind fun l5 => (code_rd.term m B 0 l5.2.1 l5.2.2).bind fun t => some ((⟨ru, bk == 1, l4, l5.1, t.1⟩ : S), t.2.1, t.2.2)) (x, q', e) :=
  ⟨_, _, LEv.bd _ (many_err B q e he) (LEv.bd _ (term_err B 0 q e he (by omega) (by have := hB.len; omega)) (Ev.now _))⟩
theorem step_err2 {B : List Int} (hB : Fit B) (ru bk : Int) (q e : Int) (he : e ≠ 0) : ∃ (x : S) (q' : Int), Ev (fun m => (code_rr.manyI (code_rr.index m B) m B q e).bind fun l4 => (code_rr.manyI (code_rr.index m B) m B l4.2.1 l4.2.2).bind fun l5 => (code_rd.term m B 0 l5.2.1 l5.2.2).bind fun t => some ((⟨ru, bk == 1, l4.1, l5.1, t.1⟩ : S), t.2.1, t.2.2)) (x, q', e) := by
  obtain ⟨x, q', h⟩ := step_err hB ru bk [] q e he
  exact ⟨x, q', LEv.bd _ (many_err B q e he) h⟩
theorem step_cases {B : List Int} (hB : Fit B) {p : Nat} (hp : p ≤ B.length) :
    (∃ e : Int, e ≠ 0 ∧ (∃ (x : S) (q : Int), Ev (fun m => code_rs.step m B (p : Int) 0) (x, q, e)) ∧ Ev (fun m => notaryref36_ReadStep.f m B (p : Int)) (rsv zS 0 e)) ∨
    (∃ (x : S) (k : Nat), GoodS x ∧ TameS x ∧ sw x ≤ 70 * k ∧ 0 < k ∧ p + k ≤ B.length ∧ cut B p k = sb x ∧ Ev (fun m => code_rs.step m B (p : Int) 0) (x, ((p + k : Nat) : Int), 0) ∧ Ev (fun m => notaryref36_ReadStep.f m B (p : Int)) (rsv x ((p + k : Nat) : Int) 0)) := by
  have hlB := hB.len
  have pin : ∀ r : S × Int × Int, Ev (fun m => (code_rr.index m B (p : Int) 0).bind fun r => (code_rd.one B r.2.1 r.2.2).bind fun q => (code_rr.manyI (code_rr.index m B) m B q.2.1 (code_rs.back q.1 q.2.2)).bind fun l => (code_rr.manyI (code_rr.index m B) m B l.2.1 l.2.2).bind fun m2 => (code_rd.term m B 0 m2.2.1 m2.2.2).bind fun t => some (⟨r.1, q.1 == 1, l.1, m2.1, t.1⟩, t.2.1, t.2.2)) r → Ev (fun m => code_rs.step m B (p : Int) 0) r := fun r k =>
    Ev.congr (fun m => code_rs.step.eq_1 ..) (LEv.pos (by omega) k)
  rcases index_cases hB hp with ⟨e, he, ⟨x, q, i1⟩, i2⟩ | ⟨ru, n, hv, n0, n1, hc, i1, i2⟩
  · have one : code_rd.one B q e = some (0, q, e) := by unfold code_rd.one; rw [if_neg he]
    have hbk : code_rs.back 0 e = e := by unfold code_rs.back; rw [if_neg (fun h => he h.1)]
    obtain ⟨y, q', hy⟩ := step_err2 hB x 0 q e he
    refine .inl ⟨e, he, ⟨y, q', pin _ (LEv.bd _ i1 (LEv.eqb one ?_))⟩, Ev.congr (fun m => notaryref36_ReadStep.f.eq_1 ..) (LEv.bd _ i2 (LEv.neg he (Ev.now _)))⟩
    rw [hbk]
    exact hy
  by_cases hpl : p + n = B.length
  · obtain ⟨y, q', hy⟩ := step_err2 hB ru 0 (B.length : Int) 1 (by decide)
    refine .inl ⟨1, by decide, ⟨y, q', pin _ (LEv.bd _ i1 ?_)⟩, Ev.congr (fun m => notaryref36_ReadStep.f.eq_1 ..) (LEv.bd _ i2 (LEv.pos rfl (LEv.pos (by show ((p + n : Nat) : Int) ≥ _; omega) (Ev.now _))))⟩
    show Ev (fun m => (code_rd.one B ((p + n : Nat) : Int) 0).bind _) _
    rw [hpl]
    refine LEv.eqb (one_end B) ?_
    have hbk : code_rs.back 0 1 = 1 := by unfold code_rs.back; rw [if_neg (by decide)]
    rw [hbk]
    exact hy
  obtain ⟨K, K0, K1, hrd, hc1, one⟩ := byte_at hB (show p + n < B.length by omega)
  have rin : ∀ r, Ev (fun m => if K > 1 then (some (rsv zS 0 2)) else ((notaryref36_ReadList.f m B ((p + n + 1 : Nat) : Int)).bind fun bt217 => (if bt217.2.2 = 0 then ((notaryref36_ReadList.f m B bt217.2.1).bind fun bt222 => (if bt222.2.2 = 0 then ((notaryref36_ReadTerm.f m B bt222.2.1 1).bind fun bt227 => (if bt227.2.2.2.2.2.2.2 = 0 then (some (ru, (K == 1), bt217.1, bt222.1, bt227.1, bt227.2.1, bt227.2.2.1, bt227.2.2.2.1, bt227.2.2.2.2.1, bt227.2.2.2.2.2.1, bt227.2.2.2.2.2.2.1, 0)) else (some (rsv zS 0 bt227.2.2.2.2.2.2.2)))) else (some (rsv zS 0 bt222.2.2)))) else (some (rsv zS 0 bt217.2.2))))) r → Ev (fun m => notaryref36_ReadStep.f m B (p : Int)) r := fun r k => by
    refine Ev.congr (fun m => notaryref36_ReadStep.f.eq_1 ..) (LEv.bd _ i2 (LEv.pos rfl (LEv.neg (by show ¬ ((p + n : Nat) : Int) ≥ _; omega) (LEv.pos (by show 0 ≤ ((p + n : Nat) : Int); omega) (LEv.pos (by show ((p + n : Nat) : Int) < _; omega) ?_)))))
    show Ev (fun m => if rd B ((p + n : Nat) : Int) > 1 then _ else _) r
    rw [hrd, up1 (p + n) (by omega)]
    exact k
  by_cases hK : K > 1
  · obtain ⟨y, q', hy⟩ := step_err2 hB ru K ((p + n + 1 : Nat) : Int) 2 (by decide)
    refine .inl ⟨2, by decide, ⟨y, q', pin _ (LEv.bd _ i1 (LEv.eqb one ?_))⟩, rin _ (LEv.pos hK (Ev.now _))⟩
    have hbk : code_rs.back K 0 = 2 := by unfold code_rs.back; rw [if_pos ⟨rfl, hK⟩]
    rw [hbk]
    exact hy
  have hbk : code_rs.back K 0 = 0 := by unfold code_rs.back; rw [if_neg (fun h => hK h.2)]
  have pin2 : ∀ r : S × Int × Int, Ev (fun m => (code_rr.manyI (code_rr.index m B) m B ((p + n + 1 : Nat) : Int) 0).bind fun l => (code_rr.manyI (code_rr.index m B) m B l.2.1 l.2.2).bind fun m2 => (code_rd.term m B 0 m2.2.1 m2.2.2).bind fun t => some (⟨ru, K == 1, l.1, m2.1, t.1⟩, t.2.1, t.2.2)) r → Ev (fun m => code_rs.step m B (p : Int) 0) r := fun r k =>
    pin r (LEv.bd _ i1 (LEv.eqb one (by rw [hbk]; exact k)))
  rcases list_cases hB (show p + n + 1 ≤ B.length by omega) with ⟨e, he, ⟨l, q, j1⟩, l', j2⟩ | ⟨l, a, l0, l1, l2, l3, j1, j2⟩
  · obtain ⟨y, q', hy⟩ := step_err hB ru K l q e he
    exact .inl ⟨e, he, ⟨y, q', pin2 _ (LEv.bd _ j1 hy)⟩, rin _ (LEv.neg hK (LEv.bd _ j2 (LEv.neg he (Ev.now _))))⟩
  rcases list_cases hB (show p + n + 1 + a ≤ B.length by omega) with ⟨e, he, ⟨u, q, g1⟩, u', g2⟩ | ⟨u, b, u0, u1, u2, u3, g1, g2⟩
  · exact .inl ⟨e, he, ⟨_, _, pin2 _ (LEv.bd _ j1 (LEv.bd _ g1 (LEv.bd _ (term_err B 0 q e he (by omega) (by omega)) (Ev.now _))))⟩, rin _ (LEv.neg hK (LEv.bd _ j2 (LEv.pos rfl (LEv.bd _ g2 (LEv.neg he (Ev.now _))))))⟩
  rcases term_cases hB 65 1 (p + n + 1 + a + b) (by omega) (by omega) (by omega) (by omega) with ⟨e, he, ⟨x, q, t1⟩, t2⟩ | ⟨x, c, x1, x2, x3, x4, x5, x6, t1, t2⟩
  · exact .inl ⟨e, he, ⟨_, _, pin2 _ (LEv.bd _ j1 (LEv.bd _ g1 (LEv.bd _ t1 (Ev.now _))))⟩, rin _ (LEv.neg hK (LEv.bd _ j2 (LEv.pos rfl (LEv.bd _ g2 (LEv.pos rfl (LEv.bd _ t2 (LEv.neg he (Ev.now _))))))))⟩
  have hz := sz_pos x
  refine .inr ⟨⟨ru, K == 1, l, u, x⟩, n + (1 + (a + (b + c))), ⟨hv, l0, u0, x1⟩, ⟨by show l.length ≤ _; omega, by show u.length ≤ _; omega, tame_up x _ 335 x2, x3, by show sz x ≤ _; omega⟩, ?_, by omega, by omega, ?_, pin2 _ (LEv.bd _ j1 (LEv.bd _ g1 (LEv.bd _ t1 (LEv.fin ?_)))), rin _ (LEv.neg hK (LEv.bd _ j2 (LEv.pos rfl (LEv.bd _ g2 (LEv.pos rfl (LEv.bd _ t2 (LEv.pos rfl (LEv.fin ?_))))))))⟩
  · unfold sw
    show 21 + 10 * (l.length + u.length) + 21 * sz x + 20 ≤ _
    omega
  · rw [← cut_cat, ← cut_cat, ← cut_cat, ← cut_cat, hc, hc1, l3, u3, x6]
    unfold sb
    have : (if (K == 1) = true then (1 : Int) else 0) = K := by
      rcases (show K = 0 ∨ K = 1 by omega) with rfl | rfl <;> rfl
    show _ = enc ru ++ [if (K == 1) = true then (1 : Int) else 0] ++ lb l ++ lb u ++ tb x
    rw [this]
    simp
  · rw [show p + n + 1 + a + b + c = p + (n + (1 + (a + (b + c)))) by omega]
  · rw [show p + n + 1 + a + b + c = p + (n + (1 + (a + (b + c)))) by omega]
    rfl
where tame_up : ∀ (x : T) (n c : Nat), Tame n x → Tame (n + c) x := fun x => by
        induction x using LTerm.ind with
        | h x ih => intro n c h; cases h with | mk n _ h1 h2 => rw [show n + 1 + c = (n + c) + 1 by omega]; exact Tame.mk _ x h1 (fun y hy => ih y hy n c (h2 y hy))
/-! ### Derivations -/
theorem dderiv_err (B : List Int) (lv p e : Int) (h : e ≠ 0) (hl : -1000000 ≤ lv ∧ lv ≤ 900000) (hb : B.length < 1000000000000) : Ev (fun m => code_rs.deriv m B lv p e) (zD, p, e) := by
  refine Ev.step (fun m => code_rs.deriv.eq_2 ..) (LEv.pos ⟨hl, hb⟩ ?_)
  have : code_rd.down lv e = (false, lv + 1, e) := by unfold code_rd.down; rw [if_neg h]
  rw [this]
  exact LEv.neg (by simp) (Ev.now _)
theorem dmany_err (B : List Int) (lv p e : Int) (h : e ≠ 0) : Ev (fun m => code_rr.manyD (code_rs.deriv m B lv) m B p e) ([], p, e) :=
  Ev.congr (fun m => code_rr.manyD.eq_1 ..) (LEv.bd _ (num_err B p e h) (Ev.step (fun m => code_rr.loopD.eq_2 ..) (LEv.neg (fun h2 => h h2.2) (Ev.now _))))
/-- what is read as a derivation on a level from a place on -/
def DC (B : List Int) (p lv : Nat) : Prop :=
    (∃ e : Int, e ≠ 0 ∧ (∃ (x : D) (q : Int), Ev (fun m => code_rs.deriv m B ((lv : Int) - 1) (p : Int) 0) (x, q, e)) ∧ Ev (fun m => notaryref36_ReadDeriv.d m B (p : Int) (lv : Int)) (zD, 0, e)) ∨
    (∃ (x : D) (k : Nat), GoodD lv x ∧ TameD (66 - lv) x ∧ dz x ≤ 200 * k ∧ 0 < k ∧ p + k ≤ B.length ∧ cut B p k = db x ∧ Ev (fun m => code_rs.deriv m B ((lv : Int) - 1) (p : Int) 0) (x, ((p + k : Nat) : Int), 0) ∧ Ev (fun m => notaryref36_ReadDeriv.d m B (p : Int) (lv : Int)) (x, ((p + k : Nat) : Int), 0))
theorem derivs_cases {B : List Int} (hB : Fit B) (lv : Nat) (hlv : 1 ≤ lv ∧ lv ≤ 64) (K : Int) (l : List Int) (ih : ∀ p, p ≤ B.length → DC B p (lv + 1)) (n : Int) (hn : n < 18446744073709551616) : ∀ (d p : Nat) (outs : List D) (c : Nat), p ≤ B.length → B.length - p ≤ d → outs.length ≤ p → (outs.length : Int) ≤ n →
    (∃ e : Int, e ≠ 0 ∧ (∃ (l : List D) (q : Int), Ev (fun m => code_rr.loopD (fun p e => code_rs.deriv (m + c) B (lv : Int) p e) m n (p : Int) 0 outs) (l, q, e)) ∧ Ev (fun m => notaryref36_ReadDeriv.loop (fun p => notaryref36_ReadDeriv.d (m + c) B p ((lv : Int) + 1)) m n (p : Int) K l outs) (zD, 0, e)) ∨
    (∃ (xs : List D) (k : Nat), ((outs.length + xs.length : Nat) : Int) = n ∧ (xs.map dz).sum ≤ 200 * k ∧ xs.length ≤ k ∧ (∀ y ∈ xs, GoodD (lv + 1) y ∧ TameD (66 - (lv + 1)) y) ∧ p + k ≤ B.length ∧ cut B p k = (xs.map db).flatten ∧ Ev (fun m => code_rr.loopD (fun p e => code_rs.deriv (m + c) B (lv : Int) p e) m n (p : Int) 0 outs) (outs ++ xs, ((p + k : Nat) : Int), 0) ∧ Ev (fun m => notaryref36_ReadDeriv.loop (fun p => notaryref36_ReadDeriv.d (m + c) B p ((lv : Int) + 1)) m n (p : Int) K l outs) (⟨K, l, zS, outs ++ xs⟩, ((p + k : Nat) : Int), 0)) := by
  intro d
  induction d with
  | zero =>
    intro p outs c hp hd ho hon
    have hlB := hB.len
    by_cases hl : (outs.length : Int) < n
    · rcases ih p hp with ⟨e, he, ⟨x, q, i1⟩, i2⟩ | ⟨x, k, g1, g2, g3, k0, k1, hc, i1, i2⟩
      · exact .inl (bad p outs c hl (by omega) e he x q i1 i2)
      · omega
    · exact .inr (done p outs c hl hon hp)
  | succ d ihd =>
    intro p outs c hp hd ho hon
    have hlB := hB.len
    by_cases hl : (outs.length : Int) < n
    · rcases ih p hp with ⟨e, he, ⟨x, q, i1⟩, i2⟩ | ⟨x, k, g1, g2, g3, k0, k1, hc, i1, i2⟩
      · exact .inl (bad p outs c hl (by omega) e he x q i1 i2)
      · have i1' : Ev (fun m => code_rs.deriv m B (lv : Int) (p : Int) 0) (x, ((p + k : Nat) : Int), 0) := by rw [show (((lv + 1 : Nat) : Int) - 1) = (lv : Int) by omega] at i1; exact i1
        have i2' : Ev (fun m => notaryref36_ReadDeriv.d m B (p : Int) ((lv : Int) + 1)) (x, ((p + k : Nat) : Int), 0) := by rw [show ((lv + 1 : Nat) : Int) = (lv : Int) + 1 by omega] at i2; exact i2
        have s1 : ∀ r, Ev (fun m => code_rr.loopD (fun p e => code_rs.deriv (m + (c + 1)) B (lv : Int) p e) m n ((p + k : Nat) : Int) 0 (outs ++ [x])) r → Ev (fun m => code_rr.loopD (fun p e => code_rs.deriv (m + c) B (lv : Int) p e) m n (p : Int) 0 outs) r := fun r g =>
          Ev.step (fun m => code_rr.loopD.eq_2 ..) (LEv.pos ⟨hl, rfl⟩ (LEv.bd _ (Ev.congr (fun m => by rw [Nat.add_assoc]) (shift i1' (1 + c))) (LEv.pos (by omega) (Ev.congr (fun m => by rw [Nat.add_assoc, Nat.add_comm 1 c]) g))))
        have s2 : ∀ r, Ev (fun m => notaryref36_ReadDeriv.loop (fun p => notaryref36_ReadDeriv.d (m + (c + 1)) B p ((lv : Int) + 1)) m n ((p + k : Nat) : Int) K l (outs ++ [x])) r → Ev (fun m => notaryref36_ReadDeriv.loop (fun p => notaryref36_ReadDeriv.d (m + c) B p ((lv : Int) + 1)) m n (p : Int) K l outs) r := fun r g =>
          Ev.step (fun m => notaryref36_ReadDeriv.loop.eq_2 ..) (LEv.pos hl (LEv.bd _ (Ev.congr (fun m => by rw [Nat.add_assoc]) (shift i2' (1 + c))) (LEv.pos rfl (LEv.pos (by omega) (Ev.congr (fun m => by rw [Nat.add_assoc, Nat.add_comm 1 c]) g)))))
        rcases ihd (p + k) (outs ++ [x]) (c + 1) k1 (by omega) (by simp; omega) (by simp; omega) with ⟨e, he, ⟨l, q, j1⟩, j2⟩ | ⟨xs, j, x1, x2, x2', x3, x4, x5, j1, j2⟩
        · exact .inl ⟨e, he, ⟨l, q, s1 _ j1⟩, s2 _ j2⟩
        · refine .inr ⟨x :: xs, k + j, by simp at x1 ⊢; omega, by simp; omega, by simp; omega, fun y hy => by rcases List.mem_cons.1 hy with rfl | hy; exact ⟨g1, g2⟩; exact x3 y hy, by omega, by rw [← cut_cat, hc, x5]; simp, s1 _ ?_, s2 _ ?_⟩
          · have := j1; rw [show p + k + j = p + (k + j) by omega, List.append_assoc] at this; exact this
          · have := j2; rw [show p + k + j = p + (k + j) by omega, List.append_assoc] at this; exact this
    · exact .inr (done p outs c hl hon hp)
where
  bad (p : Nat) (outs : List D) (c : Nat) (hl : (outs.length : Int) < n) (ho : outs.length < 1000000000) (e : Int) (he : e ≠ 0) (x : D) (q : Int) (i1 : Ev (fun m => code_rs.deriv m B (((lv + 1 : Nat) : Int) - 1) (p : Int) 0) (x, q, e)) (i2 : Ev (fun m => notaryref36_ReadDeriv.d m B (p : Int) ((lv + 1 : Nat) : Int)) (zD, 0, e)) :
      ∃ e : Int, e ≠ 0 ∧ (∃ (l : List D) (q : Int), Ev (fun m => code_rr.loopD (fun p e => code_rs.deriv (m + c) B (lv : Int) p e) m n (p : Int) 0 outs) (l, q, e)) ∧ Ev (fun m => notaryref36_ReadDeriv.loop (fun p => notaryref36_ReadDeriv.d (m + c) B p ((lv : Int) + 1)) m n (p : Int) K l outs) (zD, 0, e) := by
    have i1' : Ev (fun m => code_rs.deriv m B (lv : Int) (p : Int) 0) (x, q, e) := by rw [show (((lv + 1 : Nat) : Int) - 1) = (lv : Int) by omega] at i1; exact i1
    have i2' : Ev (fun m => notaryref36_ReadDeriv.d m B (p : Int) ((lv : Int) + 1)) (zD, 0, e) := by rw [show ((lv + 1 : Nat) : Int) = (lv : Int) + 1 by omega] at i2; exact i2
    exact ⟨e, he, ⟨_, _, Ev.step (fun m => code_rr.loopD.eq_2 ..) (LEv.pos ⟨hl, rfl⟩ (LEv.bd _ (Ev.congr (fun m => by rw [Nat.add_assoc]) (shift i1' (1 + c))) (LEv.pos ho (Ev.step (fun m => code_rr.loopD.eq_2 ..) (LEv.neg (fun h2 => he h2.2) (Ev.now _))))))⟩, Ev.step (fun m => notaryref36_ReadDeriv.loop.eq_2 ..) (LEv.pos hl (LEv.bd _ (Ev.congr (fun m => by rw [Nat.add_assoc]) (shift i2' (1 + c))) (LEv.neg he (Ev.now _))))⟩
  done (p : Nat) (outs : List D) (c : Nat) (hl : ¬ (outs.length : Int) < n) (hon : (outs.length : Int) ≤ n) (hp : p ≤ B.length) :
      ∃ (xs : List D) (k : Nat), ((outs.length + xs.length : Nat) : Int) = n ∧ (xs.map dz).sum ≤ 200 * k ∧ xs.length ≤ k ∧ (∀ y ∈ xs, GoodD (lv + 1) y ∧ TameD (66 - (lv + 1)) y) ∧ p + k ≤ B.length ∧ cut B p k = (xs.map db).flatten ∧ Ev (fun m => code_rr.loopD (fun p e => code_rs.deriv (m + c) B (lv : Int) p e) m n (p : Int) 0 outs) (outs ++ xs, ((p + k : Nat) : Int), 0) ∧ Ev (fun m => notaryref36_ReadDeriv.loop (fun p => notaryref36_ReadDeriv.d (m + c) B p ((lv : Int) + 1)) m n (p : Int) K l outs) (⟨K, l, zS, outs ++ xs⟩, ((p + k : Nat) : Int), 0) :=
    ⟨[], 0, by simp; omega, by simp, by simp, (fun y hy => by cases hy), by omega, by simp [cut], Ev.step (fun m => code_rr.loopD.eq_2 ..) (LEv.neg (fun h => hl h.1) (LEv.fin (by simp))), Ev.step (fun m => notaryref36_ReadDeriv.loop.eq_2 ..) (LEv.neg hl (LEv.fin (by simp [zS])))⟩
theorem tameS0 : TameS zS := ⟨Nat.zero_le _, Nat.zero_le _, Tame.mk 399 _ (Nat.zero_le _) (fun y hy => by cases hy), Num.mk _ ⟨by decide, by decide⟩ (fun y hy => by cases hy), by rw [sz_eq]; decide⟩
theorem sw0 : sw zS = 62 := by unfold sw; rw [sz_eq]; rfl
theorem bare0 : bareB zS = true := by
  unfold bareB zS
  simp [ByteArray.toList_eq]
theorem deriv_cases {B : List Int} (hB : Fit B) : ∀ (g lv p : Nat), 65 - lv ≤ g → 1 ≤ lv → lv ≤ 65 → p ≤ B.length → DC B p lv := by
  intro g
  induction g with
  | zero =>
    intro lv p hg h1 h2 hp
    obtain rfl : lv = 65 := by omega
    exact .inl ⟨7, by decide, ⟨zD, (p : Int), Ev.step (fun m => code_rs.deriv.eq_2 ..) (LEv.pos ⟨by omega, by have := hB.len; omega⟩ (LEv.neg (by decide) (Ev.now _)))⟩, Ev.step (fun m => notaryref36_ReadDeriv.d.eq_2 ..) (LEv.pos ⟨by omega, by have := hB.len; omega⟩ (LEv.pos (by decide) (Ev.now _)))⟩
  | succ g ih =>
    intro lv p hg h1 h2 hp
    have hlB := hB.len
    by_cases h65 : lv = 65
    · exact ih lv p (by omega) h1 h2 hp
    have hdn : code_rd.down ((lv : Int) - 1) 0 = (true, (lv : Int), 0) := by
      unfold code_rd.down
      rw [if_pos rfl, if_neg (by omega), Int.sub_add_cancel]
    have pin : ∀ r : D × Int × Int, Ev (fun m => (code_rd.one B (p : Int) 0).bind fun q => (if q.1 = 1 then (code_rs.step m B q.2.1 (code_rs.kind q.1 q.2.2)).bind fun s => some (⟨q.1, [], s.1, []⟩, s.2.1, s.2.2) else (if q.1 = 3 then code_rr.manyI (code_rr.index m B) m B q.2.1 (code_rs.kind q.1 q.2.2) else some ([], q.2.1, code_rs.kind q.1 q.2.2)).bind fun l => (code_rr.manyD (code_rs.deriv m B (lv : Int)) m B l.2.1 l.2.2).bind fun m2 => some (⟨q.1, l.1, zS, m2.1⟩, m2.2.1, m2.2.2))) r → Ev (fun m => code_rs.deriv m B ((lv : Int) - 1) (p : Int) 0) r := fun r k => by
      refine Ev.step (fun m => code_rs.deriv.eq_2 ..) (LEv.pos ⟨by omega, by omega⟩ ?_)
      rw [hdn, Int.sub_add_cancel]
      exact LEv.pos rfl k
    have rin : ∀ r : D × Int × Int, Ev (fun m => if (p : Int) ≥ (B.length : Int) then some (zD, 0, 1) else if 0 ≤ (p : Int) then (if wrap64 (rd B (p : Int)) = 1 then (notaryref36_ReadStep.f m B ((p : Int) + 1)).bind fun s => if s.2.2.2.2.2.2.2.2.2.2.2 = 0 then some (⟨1, [], ⟨s.1, s.2.1, s.2.2.1, s.2.2.2.1, ⟨s.2.2.2.2.1, s.2.2.2.2.2.1, s.2.2.2.2.2.2.1, s.2.2.2.2.2.2.2.1, s.2.2.2.2.2.2.2.2.1, s.2.2.2.2.2.2.2.2.2.1⟩⟩, []⟩, s.2.2.2.2.2.2.2.2.2.2.1, 0) else some (zD, 0, s.2.2.2.2.2.2.2.2.2.2.2) else if wrap64 (rd B (p : Int)) = 2 ∨ wrap64 (rd B (p : Int)) = 3 then (if wrap64 (rd B (p : Int)) = 3 then notaryref36_ReadList.f m B ((p : Int) + 1) else some ([], (p : Int) + 1, 0)).bind fun l => if l.2.2 = 0 then (notaryref01_Get.f m B l.2.1).bind fun n => if n.2.2 = 0 then notaryref36_ReadDeriv.loop (fun p => notaryref36_ReadDeriv.d m B p ((lv : Int) + 1)) m n.1 n.2.1 (wrap64 (rd B (p : Int))) l.1 [] else some (zD, 0, n.2.2) else some (zD, 0, l.2.2) else some (zD, 0, 23)) else none) r → Ev (fun m => notaryref36_ReadDeriv.d m B (p : Int) (lv : Int)) r := fun r k =>
      Ev.step (fun m => notaryref36_ReadDeriv.d.eq_2 ..) (LEv.pos ⟨by omega, by omega⟩ (LEv.neg (by omega) k))
    by_cases hpl : p = B.length
    · have one : code_rd.one B (p : Int) 0 = some (0, (p : Int), 1) := by rw [hpl]; exact one_end B
      have hkd1 : code_rs.kind 0 1 = 1 := by unfold code_rs.kind; rw [if_neg (by decide)]
      have n01 : ¬ (0 : Int) = 1 := by decide
      have n03 : ¬ (0 : Int) = 3 := by decide
      exact .inl ⟨1, by decide, ⟨⟨0, [], zS, []⟩, (p : Int), pin _ (LEv.eqb one (LEv.neg n01 (LEv.bd ([], (p : Int), 1) (LEv.neg n03 (LEv.fin (by rw [hkd1]))) (LEv.bd _ (dmany_err B _ _ 1 (by decide)) (Ev.now _)))))⟩, rin _ (LEv.pos (by omega) (Ev.now _))⟩
    obtain ⟨K, K0, K1, hrd, hc1, one⟩ := byte_at hB (show p < B.length by omega)
    have hK64 : wrap64 K = K := w64 K (by omega) (by omega)
    have rin2 : ∀ r : D × Int × Int, Ev (fun m => if K = 1 then (notaryref36_ReadStep.f m B ((p + 1 : Nat) : Int)).bind fun s => if s.2.2.2.2.2.2.2.2.2.2.2 = 0 then some (⟨1, [], ⟨s.1, s.2.1, s.2.2.1, s.2.2.2.1, ⟨s.2.2.2.2.1, s.2.2.2.2.2.1, s.2.2.2.2.2.2.1, s.2.2.2.2.2.2.2.1, s.2.2.2.2.2.2.2.2.1, s.2.2.2.2.2.2.2.2.2.1⟩⟩, []⟩, s.2.2.2.2.2.2.2.2.2.2.1, 0) else some (zD, 0, s.2.2.2.2.2.2.2.2.2.2.2) else if K = 2 ∨ K = 3 then (if K = 3 then notaryref36_ReadList.f m B ((p + 1 : Nat) : Int) else some ([], ((p + 1 : Nat) : Int), 0)).bind fun l => if l.2.2 = 0 then (notaryref01_Get.f m B l.2.1).bind fun n => if n.2.2 = 0 then notaryref36_ReadDeriv.loop (fun p => notaryref36_ReadDeriv.d m B p ((lv : Int) + 1)) m n.1 n.2.1 K l.1 [] else some (zD, 0, n.2.2) else some (zD, 0, l.2.2) else some (zD, 0, 23)) r → Ev (fun m => notaryref36_ReadDeriv.d m B (p : Int) (lv : Int)) r := fun r k => by
      refine rin r (LEv.neg (by omega) (LEv.pos (by omega) ?_))
      rw [hrd, hK64, show (p : Int) + 1 = ((p + 1 : Nat) : Int) by omega]
      exact k
    by_cases hk : K < 1 ∨ K > 3
    · have hkd : code_rs.kind K 0 = 23 := if_pos ⟨rfl, hk⟩
      refine .inl ⟨23, by decide, ⟨⟨K, [], zS, []⟩, ((p + 1 : Nat) : Int), pin _ (LEv.eqb one (LEv.neg (by show ¬ K = 1; omega) (LEv.bd ([], ((p + 1 : Nat) : Int), 23) (LEv.neg (by show ¬ K = 3; omega) (LEv.fin (by rw [hkd]))) (LEv.bd _ (dmany_err B _ _ 23 (by decide)) (Ev.now _)))))⟩, rin2 _ (LEv.neg (by omega) (LEv.neg (by omega) (Ev.now _)))⟩
    have hkd : code_rs.kind K 0 = 0 := if_neg (fun h => hk h.2)
    by_cases hk1 : K = 1
    · subst hk1
      rcases step_cases hB (show p + 1 ≤ B.length by omega) with ⟨e, he, ⟨x, q, i1⟩, i2⟩ | ⟨x, k, g1, g2, g3, k0, k1, hc, i1, i2⟩
      · exact .inl ⟨e, he, ⟨_, _, pin _ (LEv.eqb one (LEv.pos rfl (by rw [hkd]; exact LEv.bd _ i1 (Ev.now _))))⟩, rin2 _ (LEv.pos rfl (LEv.bd _ i2 (LEv.neg he (Ev.now _))))⟩
      · refine .inr ⟨⟨1, [], x, []⟩, 1 + k, GoodD.mk lv _ (by omega) (by show 1 ≤ (1 : Int) ∧ (1 : Int) ≤ 3; decide) (by rw [fine1 rfl]; rfl) (fun _ => g1) (fun h => absurd h (by show ¬ (1 : Int) = 3; decide)) (fun y hy => by cases hy), ?_, ?_, by omega, by omega, ?_, pin _ (LEv.eqb one (LEv.pos rfl ?_)), rin2 _ (LEv.pos rfl (LEv.bd _ i2 (LEv.pos rfl (LEv.fin ?_))))⟩
        · rw [show 66 - lv = (65 - lv) + 1 by omega]
          exact TameD.mk _ _ (Nat.zero_le _) (Nat.zero_le _) g2 (fun y hy => by cases hy)
        · rw [dz_eq]
          show 30 + sw x + 10 * 0 + 0 ≤ _
          omega
        · rw [← cut_cat, hc1, hc, db_eq]
          rfl
        · rw [hkd]
          refine LEv.bd _ i1 (LEv.fin ?_)
          rw [show p + 1 + k = p + (1 + k) by omega]
        · rw [show p + 1 + k = p + (1 + k) by omega]
          rcases x with ⟨xa, xb, xc, xd, ⟨xe, xf, xg, xh, xi, xj⟩⟩
          rfl
    have hk2 : K = 2 ∨ K = 3 := by omega
    -- the path
    have path : (∃ e : Int, e ≠ 0 ∧ (∃ (l : List Int) (q : Int), Ev (fun m => if K = 3 then code_rr.manyI (code_rr.index m B) m B ((p + 1 : Nat) : Int) 0 else some ([], ((p + 1 : Nat) : Int), 0)) (l, q, e)) ∧ ∃ l : List Int, Ev (fun m => if K = 3 then notaryref36_ReadList.f m B ((p + 1 : Nat) : Int) else some ([], ((p + 1 : Nat) : Int), 0)) (l, 0, e)) ∨
        (∃ (l : List Int) (k : Nat), (K = 3 → okL l) ∧ (K ≠ 3 → l = []) ∧ l.length ≤ k ∧ p + 1 + k ≤ B.length ∧ cut B (p + 1) k = (if K = 3 then lb l else []) ∧ Ev (fun m => if K = 3 then code_rr.manyI (code_rr.index m B) m B ((p + 1 : Nat) : Int) 0 else some ([], ((p + 1 : Nat) : Int), 0)) (l, ((p + 1 + k : Nat) : Int), 0) ∧ Ev (fun m => if K = 3 then notaryref36_ReadList.f m B ((p + 1 : Nat) : Int) else some ([], ((p + 1 : Nat) : Int), 0)) (l, ((p + 1 + k : Nat) : Int), 0)) := by
      by_cases hk3 : K = 3
      · rcases list_cases hB (show p + 1 ≤ B.length by omega) with ⟨e, he, ⟨l, q, j1⟩, l', j2⟩ | ⟨l, a, l0, l1, l2, l3, j1, j2⟩
        · exact .inl ⟨e, he, ⟨l, q, LEv.pos hk3 j1⟩, l', LEv.pos hk3 j2⟩
        · exact .inr ⟨l, a, fun _ => l0, fun h => absurd hk3 h, by omega, l2, by rw [if_pos hk3]; exact l3, LEv.pos hk3 j1, LEv.pos hk3 j2⟩
      · exact .inr ⟨[], 0, fun h => absurd h hk3, fun _ => rfl, Nat.le_refl _, by omega, by rw [if_neg hk3]; simp [cut], LEv.neg hk3 (Ev.now _), LEv.neg hk3 (Ev.now _)⟩
    have pin3 : ∀ r : D × Int × Int, Ev (fun m => (if K = 3 then code_rr.manyI (code_rr.index m B) m B ((p + 1 : Nat) : Int) 0 else some ([], ((p + 1 : Nat) : Int), 0)).bind fun l => (code_rr.manyD (code_rs.deriv m B (lv : Int)) m B l.2.1 l.2.2).bind fun m2 => some (⟨K, l.1, zS, m2.1⟩, m2.2.1, m2.2.2)) r → Ev (fun m => code_rs.deriv m B ((lv : Int) - 1) (p : Int) 0) r := fun r k => by
      refine pin r (LEv.eqb one (LEv.neg hk1 ?_))
      rw [hkd]
      exact k
    have rin3 : ∀ r : D × Int × Int, Ev (fun m => (if K = 3 then notaryref36_ReadList.f m B ((p + 1 : Nat) : Int) else some ([], ((p + 1 : Nat) : Int), 0)).bind fun l => if l.2.2 = 0 then (notaryref01_Get.f m B l.2.1).bind fun n => if n.2.2 = 0 then notaryref36_ReadDeriv.loop (fun p => notaryref36_ReadDeriv.d m B p ((lv : Int) + 1)) m n.1 n.2.1 K l.1 [] else some (zD, 0, n.2.2) else some (zD, 0, l.2.2)) r → Ev (fun m => notaryref36_ReadDeriv.d m B (p : Int) (lv : Int)) r := fun r k => rin2 r (LEv.neg hk1 (LEv.pos hk2 k))
    rcases path with ⟨e, he, ⟨l, q, j1⟩, l', j2⟩ | ⟨l, a, l0, l0', l1, l2, l3, j1, j2⟩
    · exact .inl ⟨e, he, ⟨_, _, pin3 _ (LEv.bd _ j1 (LEv.bd _ (dmany_err B _ q e he) (Ev.now _)))⟩, rin3 _ (LEv.bd _ j2 (LEv.neg he (Ev.now _)))⟩
    have n2 := num_ev hB (p + 1 + a)
    have r2 := rnum_ev hB (p + 1 + a)
    rcases getS_cases hB l2 with ⟨e, he, hg2⟩ | ⟨u, m, u0, u1, m0, m1, hc2, hg2⟩
    · rw [hg2] at n2 r2
      exact .inl ⟨e, he, ⟨_, _, pin3 _ (LEv.bd _ j1 (LEv.bd ([], 0, e) (Ev.congr (fun m => code_rr.manyD.eq_1 ..) (LEv.bd _ n2 (Ev.step (fun m => code_rr.loopD.eq_2 ..) (LEv.neg (fun h2 => he h2.2) (Ev.now _))))) (Ev.now _)))⟩, rin3 _ (LEv.bd _ j2 (LEv.pos rfl (LEv.bd _ r2 (LEv.neg he (Ev.now _)))))⟩
    rw [hg2] at n2 r2
    rcases derivs_cases hB lv (by omega) K l (fun p hp => ih (lv + 1) p (by omega) (by omega) (by omega) hp) u u1 (B.length - (p + 1 + a + m)) (p + 1 + a + m) [] 0 m1 (Nat.le_refl _) (Nat.zero_le _) (by simpa using u0) with ⟨e, he, ⟨v, q, i1⟩, i2⟩ | ⟨xs, j, x1, x2, x2', x3, x4, x5, i1, i2⟩
    · exact .inl ⟨e, he, ⟨_, _, pin3 _ (LEv.bd _ j1 (LEv.bd _ (Ev.congr (fun m => code_rr.manyD.eq_1 ..) (LEv.bd _ n2 i1)) (Ev.now _)))⟩, rin3 _ (LEv.bd _ j2 (LEv.pos rfl (LEv.bd _ r2 (LEv.pos rfl i2))))⟩
    · simp only [List.length_nil, Nat.zero_add] at x1
      have hfine : code_dw.fineB ⟨K, l, zS, xs⟩ = true := by
        rw [fineN hk1]
        show (bareB zS && (K == 3 || l.length == 0)) = true
        rw [bare0]
        rcases hk2 with rfl | rfl
        · rw [l0' (by decide)]; rfl
        · rfl
      refine .inr ⟨⟨K, l, zS, xs⟩, 1 + (a + (m + j)), GoodD.mk lv _ (by omega) (by show 1 ≤ K ∧ K ≤ 3; omega) hfine (fun h => absurd h hk1) l0 (fun y hy => (x3 y hy).1), ?_, ?_, by omega, by omega, ?_, pin3 _ (LEv.bd _ j1 (LEv.bd (xs, ((p + (1 + (a + (m + j))) : Nat) : Int), 0) (Ev.congr (fun m => code_rr.manyD.eq_1 ..) (LEv.bd _ n2 ?_)) (Ev.now _))), rin3 _ (LEv.bd _ j2 (LEv.pos rfl (LEv.bd _ r2 (LEv.pos rfl ?_))))⟩
      · rw [show 66 - lv = (66 - (lv + 1)) + 1 by omega]
        exact TameD.mk _ _ (by show l.length ≤ 100000; omega) (by show xs.length ≤ 100000; omega) tameS0 (fun y hy => (x3 y hy).2)
      · rw [dz_eq]
        show 30 + sw zS + 10 * l.length + (xs.map dz).sum ≤ _
        rw [sw0]
        omega
      · rw [← cut_cat, ← cut_cat, ← cut_cat, hc1, l3, hc2, x5, db_eq]
        show _ = [K] ++ (if K = 1 then sb zS else (if K = 3 then lb l else []) ++ enc (xs.length : Int) ++ (xs.map db).flatten)
        rw [if_neg hk1, x1]
        simp
      · rw [show p + (1 + (a + (m + j))) = p + 1 + a + m + j by omega]
        exact i1
      · rw [show p + (1 + (a + (m + j))) = p + 1 + a + m + j by omega]
        exact i2
end Go.Proofs.Ytiamcmjdoobaeaa.LRd
