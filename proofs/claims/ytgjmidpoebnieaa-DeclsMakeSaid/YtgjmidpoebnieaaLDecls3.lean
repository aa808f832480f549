/- Declarations: what any rule makes of any term: both programs' answers are one. -/
import Derived.Test.YtgjmidpoebnieaaLDecls2
import Derived.Test.YtgjmidpoebnieaaLTermS
import Derived.Test.YtgjmidpoebnieaaPDmx2
import Derived.Test.YtgjmidpoebnieaaPDmx15
import Derived.Test.YtgjmidpoebnieaaPDmx16
import Derived.Test.YtgjmidpoebnieaaPDmx17
namespace Go.Proofs.Ytgjmidpoebnieaa.LDecls
open Go.RowKit Go.Proofs.Ytgjmidpoebnieaa.PDm Go.Proofs.YtgjmidpoebnieaaW.PrintWords Go.Proofs.YtgjmidpoebnieaaW.PrintLast Go.Proofs.YtgjmidpoebnieaaW.PrintMore
open LTerm (T Small Fine rdT up1 app1 len1 lenlt)
set_option linter.unusedVariables false
set_option linter.unusedSimpArgs false
/-- alike, asked from the other side -/
theorem same_swap (a : T) : ∀ b : T, Fine a → ∃ r, Ev (fun m => term_Same.f m b.f0 b.f1 b.f2 b.f3 b.f4 b.f5 a.f0 a.f1 a.f2 a.f3 a.f4 a.f5) r ∧ Ev (fun m => notaryref06_Same.f m a.f0 a.f1 a.f2 a.f3 a.f4 a.f5 b.f0 b.f1 b.f2 b.f3 b.f4 b.f5) r := by
  induction a using LTerm.ind with
  | h a ih =>
  intro b hF
  have hlen := hF.len
  have jt : Ev (fun m => notaryref06_Same.j0 m true a.f0 a.f1 a.f2 a.f3 a.f4 a.f5 b.f0 b.f1 b.f2 b.f3 b.f4 b.f5) false := Ev.step (fun m => notaryref06_Same.j0.eq_2 ..) (LEv.pos rfl (Ev.now _))
  by_cases h0 : a.f0 = b.f0
  case neg => exact ⟨false, Ev.step (fun m => term_Same.f.eq_2 ..) (LEv.neg (fun e => h0 e.symm) (Ev.now _)), Ev.step (fun m => notaryref06_Same.f.eq_2 ..) (LEv.neg h0 jt)⟩
  by_cases h1 : a.f1 = b.f1
  case neg => exact ⟨false, Ev.step (fun m => term_Same.f.eq_2 ..) (LEv.pos h0.symm (LEv.neg (fun e => h1 e.symm) (Ev.now _))), Ev.step (fun m => notaryref06_Same.f.eq_2 ..) (LEv.pos h0 (LEv.neg h1 jt))⟩
  by_cases h2 : a.f2.toList = b.f2.toList
  case neg => exact ⟨false, Ev.step (fun m => term_Same.f.eq_2 ..) (LEv.pos h0.symm (LEv.pos h1.symm (LEv.neg (fun e => h2 e.symm) (Ev.now _)))), Ev.step (fun m => notaryref06_Same.f.eq_2 ..) (LEv.pos h0 (LEv.pos h1 (LEv.neg h2 jt)))⟩
  by_cases h3 : a.f3.length = b.f3.length
  case neg =>
    refine ⟨false, Ev.step (fun m => term_Same.f.eq_2 ..) (LEv.pos h0.symm (LEv.pos h1.symm (LEv.pos h2.symm (LEv.neg (fun e => h3 e.symm) (Ev.now _))))), Ev.step (fun m => notaryref06_Same.f.eq_2 ..) (LEv.pos h0 (LEv.pos h1 (LEv.pos h2 ?_)))⟩
    rw [show ((a.f3.length : Int) != (b.f3.length : Int)) = true by simp; omega]
    exact jt
  have key : ∀ (rest pre rest' pre' : List T), a.f3 = pre ++ rest → b.f3 = pre' ++ rest' → pre.length = pre'.length →
      ∃ r, Ev (fun m => term_Same.eqs (fun x y => term_Same.f m x.f0 x.f1 x.f2 x.f3 x.f4 x.f5 y.f0 y.f1 y.f2 y.f3 y.f4 y.f5) rest' rest) r ∧ Ev (fun m => notaryref06_Same.l0 m (pre.length : Int) a.f0 a.f1 a.f2 a.f3 a.f4 a.f5 b.f0 b.f1 b.f2 b.f3 b.f4 b.f5) r := by
    intro rest
    induction rest with
    | nil =>
      intro pre rest' pre' ha hb hp
      obtain rfl : rest' = [] := List.eq_nil_of_length_eq_zero (by rw [ha, hb] at h3; simp at h3; omega)
      exact ⟨true, Ev.now _, Ev.step (fun m => notaryref06_Same.l0.eq_2 ..) (LEv.neg (by rw [ha]; simp) (Ev.now _))⟩
    | cons x rest ih2 =>
      intro pre rest' pre' ha hb hp
      cases rest' with
      | nil => rw [ha, hb] at h3; simp at h3; omega
      | cons y rest' =>
        obtain ⟨r, r1, r2⟩ := ih x (by rw [ha]; simp) y (hF.sub (by rw [ha]; simp))
        obtain ⟨s, s1, s2⟩ := ih2 (pre ++ [x]) rest' (pre' ++ [y]) (by rw [ha]; simp) (by rw [hb]; simp) (by simp [hp])
        have e1 : rd_T24 a.f3 (pre.length : Int) = x := by rw [ha]; exact rdT _ _ _
        have e2 : rd_T24 b.f3 (pre.length : Int) = y := by rw [hb, hp]; exact rdT _ _ _
        refine ⟨if r = true then s else false, LEv.bd r r1 ?_, Ev.step (fun m => notaryref06_Same.l0.eq_2 ..) (LEv.pos (by rw [ha]; exact lenlt _ _ _) (LEv.pos (by omega) (LEv.pos (by rw [hb, hp]; exact lenlt _ _ _) ?_)))⟩
        · cases r with
          | true => exact LEv.pos rfl s1
          | false => exact LEv.neg (by decide) (Ev.now _)
        · rw [e1, e2, up1 _ (by rw [ha] at hlen; simp at hlen; omega), ← len1 pre x]
          refine LEv.bd r r2 ?_
          cases r with
          | true => exact LEv.pos rfl s2
          | false => exact LEv.neg (by decide) (Ev.now _)
  obtain ⟨r, r1, r2⟩ := key a.f3 [] b.f3 [] rfl rfl rfl
  refine ⟨r, Ev.step (fun m => term_Same.f.eq_2 ..) (LEv.pos h0.symm (LEv.pos h1.symm (LEv.pos h2.symm (LEv.pos h3.symm r1)))), Ev.step (fun m => notaryref06_Same.f.eq_2 ..) (LEv.pos h0 (LEv.pos h1 (LEv.pos h2 ?_)))⟩
  rw [show ((a.f3.length : Int) != (b.f3.length : Int)) = false by simp; omega]
  exact Ev.step (fun m => notaryref06_Same.j0.eq_2 ..) (LEv.neg (by decide) r2)
theorem small_fine (x : T) : ∀ n, Small n x → Fine x := by
  induction x using LTerm.ind with
  | h x ih =>
  intro n h
  have hlen := h.len
  obtain ⟨n, rfl⟩ : ∃ k, n = k + 1 := by cases h; exact ⟨_, rfl⟩
  exact Fine.mk x (by omega) (fun y hy => ih y hy n (h.sub hy))
/-- the term of an answer -/
def term7 (r : Tup7) : T := ⟨r.1, r.2.1, r.2.2.1, r.2.2.2.1, r.2.2.2.2.1, r.2.2.2.2.2.1⟩
theorem SmallR.fine {n : Nat} {r : Tup7} (h : SmallR (n + 1) r) : Fine (term7 r) := by
  obtain ⟨h1, h2⟩ := h
  exact small_fine _ (n + 1) (Small.mk n _ h1 (h2 n rfl))
theorem self_ref {n : Nat} {r : Tup7} (h : SmallR (n + 1) r) : Ev (fun m => notaryref06_Same.f m r.1 r.2.1 r.2.2.1 r.2.2.2.1 r.2.2.2.2.1 r.2.2.2.2.2.1 r.1 r.2.1 r.2.2.1 r.2.2.2.1 r.2.2.2.2.1 r.2.2.2.2.2.1) true := by
  obtain ⟨b, b1, b2⟩ := LTerm.same_both (term7 r) (term7 r) h.fine
  obtain rfl := LEv.uniq b1 (LTerm.same_self (term7 r))
  exact b2
/-- whether a rule makes the one term of the other -/
theorem holds_both (rule : Int) (l : List Int) (x y : T) (n : Nat) (hS : Small (n + 1) x) (hl : l.length ≤ 400) (hy : Fine y) : ∃ b, Ev (fun m => decls_Holds.f m rule l x.f0 x.f1 x.f2 x.f3 x.f4 x.f5 y.f0 y.f1 y.f2 y.f3 y.f4 y.f5) b ∧ Ev (fun m => notaryref32_Holds.f m rule l x.f0 x.f1 x.f2 x.f3 x.f4 x.f5 y.f0 y.f1 y.f2 y.f3 y.f4 y.f5) b := by
  have jf : Ev (fun m => decls_Holds.j0 m l false false x.f0 x.f1 x.f2 x.f3 x.f4 x.f5 y.f0 y.f1 y.f2 y.f3 y.f4 y.f5 0 0 ⟨#[]⟩ 0 0) false := Ev.step (fun m => decls_Holds.j0.eq_2 ..) (LEv.neg (by decide) (LEv.neg (by decide) (Ev.now _)))
  by_cases h1 : rule = 50
  · obtain ⟨r, r1, r2, _, r4⟩ := perm_both x l n hS hl
    have hs : Ev (fun m => notaryref32_Side.f m rule l x.f0 x.f1 x.f2 x.f3 x.f4 x.f5) r := Ev.congr (fun m => notaryref32_Side.f.eq_1 ..) (LEv.pos h1 (LEv.bd r r2 (Ev.now _)))
    by_cases hr : r.2.2.2.2.2.2 = true
    · obtain ⟨b, b1, b2⟩ := same_swap (term7 r) y r4.fine
      exact ⟨b, Ev.congr (fun m => decls_Holds.f.eq_1 ..) (LEv.pos h1 (LEv.bd r r1 (LEv.pos hr (LEv.bd b b1 (Ev.now _))))), Ev.congr (fun m => notaryref32_Holds.f.eq_1 ..) (LEv.bd r hs (LEv.pos hr (LEv.bd b b2 (Ev.now _))))⟩
    · exact ⟨false, Ev.congr (fun m => decls_Holds.f.eq_1 ..) (LEv.pos h1 (LEv.bd r r1 (LEv.neg hr (Ev.now _)))), Ev.congr (fun m => notaryref32_Holds.f.eq_1 ..) (LEv.bd r hs (LEv.neg hr (Ev.now _)))⟩
  by_cases h2 : rule = 51
  · by_cases h3 : (l.length : Int) = 1
    · obtain ⟨r, r1, r2, _, r4⟩ := drop_both x (rd l 0) n hS
      have hs : Ev (fun m => notaryref32_Side.f m rule l x.f0 x.f1 x.f2 x.f3 x.f4 x.f5) r := Ev.congr (fun m => notaryref32_Side.f.eq_1 ..) (LEv.neg h1 (LEv.pos h2 (LEv.pos h3 (LEv.pos (by omega) (LEv.bd r r2 (Ev.now _))))))
      have hb : ((l.length : Int) == 1) = true := by simpa using h3
      by_cases hr : r.2.2.2.2.2.2 = true
      · obtain ⟨b, b1, b2⟩ := same_swap (term7 r) y r4.fine
        refine ⟨b, Ev.congr (fun m => decls_Holds.f.eq_1 ..) (LEv.neg h1 (LEv.pos h2 ?_)), Ev.congr (fun m => notaryref32_Holds.f.eq_1 ..) (LEv.bd r hs (LEv.pos hr (LEv.bd b b2 (Ev.now _))))⟩
        rw [hb]
        exact Ev.step (fun m => decls_Holds.j0.eq_2 ..) (LEv.pos rfl (LEv.pos (by omega) (LEv.bd r r1 (LEv.pos hr (LEv.bd b b1 (Ev.now _))))))
      · refine ⟨false, Ev.congr (fun m => decls_Holds.f.eq_1 ..) (LEv.neg h1 (LEv.pos h2 ?_)), Ev.congr (fun m => notaryref32_Holds.f.eq_1 ..) (LEv.bd r hs (LEv.neg hr (Ev.now _)))⟩
        rw [hb]
        exact Ev.step (fun m => decls_Holds.j0.eq_2 ..) (LEv.pos rfl (LEv.pos (by omega) (LEv.bd r r1 (LEv.neg hr (Ev.now _)))))
    · have hs : Ev (fun m => notaryref32_Side.f m rule l x.f0 x.f1 x.f2 x.f3 x.f4 x.f5) bad := Ev.congr (fun m => notaryref32_Side.f.eq_1 ..) (LEv.neg h1 (LEv.pos h2 (LEv.neg h3 (Ev.now _))))
      have hb : ((l.length : Int) == 1) = false := by simpa using h3
      refine ⟨false, Ev.congr (fun m => decls_Holds.f.eq_1 ..) (LEv.neg h1 (LEv.pos h2 ?_)), Ev.congr (fun m => notaryref32_Holds.f.eq_1 ..) (LEv.bd bad hs (LEv.neg (by decide) (Ev.now _)))⟩
      rw [hb]
      exact jf
  · have hs : Ev (fun m => notaryref32_Side.f m rule l x.f0 x.f1 x.f2 x.f3 x.f4 x.f5) bad := Ev.congr (fun m => notaryref32_Side.f.eq_1 ..) (LEv.neg h1 (LEv.neg h2 (Ev.now _)))
    exact ⟨false, Ev.congr (fun m => decls_Holds.f.eq_1 ..) (LEv.neg h1 (LEv.neg h2 jf)), Ev.congr (fun m => notaryref32_Holds.f.eq_1 ..) (LEv.bd bad hs (LEv.neg (by decide) (Ev.now _)))⟩
/-- what the law asks, with one number of rounds for all -/
structure Made (K : Nat) (rule : Int) (l : List Int) (x y : T) (bl br : Bool) (p d : Tup7) (h : Bool) : Prop where
  lx : notaryref06_Large.f K x.f0 x.f1 x.f2 x.f3 x.f4 x.f5 = some bl
  ly : notaryref06_Large.f K y.f0 y.f1 y.f2 y.f3 y.f4 y.f5 = some br
  aw : notarylaw32_awake.f K = some true
  more : bl = false → l.length ≤ 100 → decls_Perm.f K x.f0 x.f1 x.f2 x.f3 x.f4 x.f5 l = some p ∧ notaryref32_Perm.f K x.f0 x.f1 x.f2 x.f3 x.f4 x.f5 l = some p ∧
    notaryref06_Same.f K p.1 p.2.1 p.2.2.1 p.2.2.2.1 p.2.2.2.2.1 p.2.2.2.2.2.1 p.1 p.2.1 p.2.2.1 p.2.2.2.1 p.2.2.2.2.1 p.2.2.2.2.2.1 = some true ∧
    decls_Holds.f K rule l x.f0 x.f1 x.f2 x.f3 x.f4 x.f5 y.f0 y.f1 y.f2 y.f3 y.f4 y.f5 = some h ∧ notaryref32_Holds.f K rule l x.f0 x.f1 x.f2 x.f3 x.f4 x.f5 y.f0 y.f1 y.f2 y.f3 y.f4 y.f5 = some h ∧
    decls_Drop.f K x.f0 x.f1 x.f2 x.f3 x.f4 x.f5 (rd l 0) = some d ∧ notaryref32_Drop.f K x.f0 x.f1 x.f2 x.f3 x.f4 x.f5 (rd l 0) = some d ∧
    notaryref06_Same.f K d.1 d.2.1 d.2.2.1 d.2.2.2.1 d.2.2.2.2.1 d.2.2.2.2.2.1 d.1 d.2.1 d.2.2.1 d.2.2.2.1 d.2.2.2.2.1 d.2.2.2.2.2.1 = some true
theorem made (rule : Int) (l : List Int) (x y : T) (hx : Fine x) (hy : Fine y) : ∃ K bl br p d h, Made K rule l x y bl br p d h := by
  obtain ⟨bl, ⟨k1, b1⟩, b2⟩ := LTerm.large_ev x hx
  obtain ⟨br, ⟨k2, b3⟩, _⟩ := LTerm.large_ev y hy
  obtain ⟨k3, b4⟩ := awake_ev
  by_cases hc : bl = false ∧ l.length ≤ 100
  · obtain ⟨hb, hl⟩ := hc
    have hS := (b2 hb).1
    obtain ⟨p, ⟨k4, p1⟩, ⟨k5, p2⟩, _, p4⟩ := perm_both x l 69 hS (by omega)
    obtain ⟨d, ⟨k6, d1⟩, ⟨k7, d2⟩, _, d4⟩ := drop_both x (rd l 0) 69 hS
    obtain ⟨h, ⟨k8, h1⟩, ⟨k9, h2⟩⟩ := holds_both rule l x y 69 hS (by omega) hy
    obtain ⟨k10, s1⟩ := self_ref p4
    obtain ⟨k11, s2⟩ := self_ref d4
    exact ⟨k1 + k2 + k3 + k4 + k5 + k6 + k7 + k8 + k9 + k10 + k11, bl, br, p, d, h, b1 _ (by omega), b3 _ (by omega), b4 _ (by omega), fun _ _ => ⟨p1 _ (by omega), p2 _ (by omega), s1 _ (by omega), h1 _ (by omega), h2 _ (by omega), d1 _ (by omega), d2 _ (by omega), s2 _ (by omega)⟩⟩
  · exact ⟨k1 + k2 + k3, bl, br, bad, bad, false, b1 _ (by omega), b3 _ (by omega), b4 _ (by omega), fun h1 h2 => absurd ⟨h1, h2⟩ hc⟩
end Go.Proofs.Ytgjmidpoebnieaa.LDecls
