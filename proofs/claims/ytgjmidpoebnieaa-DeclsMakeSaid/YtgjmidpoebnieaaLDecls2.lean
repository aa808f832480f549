/- Declarations: terms made anew, what is left of a module, its pairs: both programs' answers are one. -/
import Derived.Test.YtgjmidpoebnieaaLDecls
namespace Go.Proofs.Ytgjmidpoebnieaa.LDecls
open Go.RowKit Go.Proofs.Ytgjmidpoebnieaa.PDm Go.Proofs.YtgjmidpoebnieaaW.PrintWords Go.Proofs.YtgjmidpoebnieaaW.PrintLast Go.Proofs.YtgjmidpoebnieaaW.PrintMore
open LTerm (T Small Fine rdT up1 app1 len1 lenlt)
set_option linter.unusedVariables false
set_option linter.unusedSimpArgs false
abbrev tup (x : T) : Int × Int × ByteArray × List T × Int × Int := (x.f0, x.f1, x.f2, x.f3, x.f4, x.f5)
theorem mk_eta (z : T) : (⟨z.f0, z.f1, z.f2, z.f3, z.f4, z.f5⟩ : T) = z := by cases z; rfl
theorem ren_both (pl : List Int) (x : T) : ∀ n, Small n x → ∃ y : T, Ev (fun m => decls_walk.f m pl x) y ∧ Ev (fun m => notaryref32_Renumbered.f m x.f0 x.f1 x.f2 x.f3 x.f4 x.f5 pl) (tup y) ∧ Small n y := by
  induction x using LTerm.ind with
  | h x ih =>
  intro n hS
  have hlen := hS.len
  obtain ⟨n, rfl⟩ : ∃ k, n = k + 1 := by cases hS; exact ⟨_, rfl⟩
  have key : ∀ (rest pre : List T) (out : List T) (N : Int), x.f3 = pre ++ rest → out.length = pre.length → ∃ ys : List T, Ev (fun m => decls_walk.all (decls_walk.f m pl) rest) ys ∧ Ev (fun m => notaryref32_Renumbered.l0 m pl (pre.length : Int) x.f0 x.f1 x.f2 x.f3 x.f4 x.f5 x.f0 N x.f2 out x.f4 x.f5) (x.f0, N, x.f2, out ++ ys, x.f4, x.f5) ∧ ys.length = rest.length ∧ ∀ y ∈ ys, Small n y := by
    intro rest
    induction rest with
    | nil => exact fun pre out N he ho => ⟨[], Ev.now _, Ev.step (fun m => notaryref32_Renumbered.l0.eq_2 ..) (LEv.neg (by rw [he]; simp) (LEv.fin (by simp))), rfl, fun y hy => by cases hy⟩
    | cons y rest ih2 =>
      intro pre out N he ho
      obtain ⟨z, z1, z2, z3⟩ := ih y (by rw [he]; simp) n (hS.sub (by rw [he]; simp))
      obtain ⟨zs, s1, s2, s3, s4⟩ := ih2 (pre ++ [y]) (out ++ [z]) N (by rw [he]; simp) (by simp [ho])
      have e1 : rd_T24 x.f3 (pre.length : Int) = y := by rw [he]; exact rdT _ _ _
      have hpl : pre.length < 400 := by rw [he] at hlen; simp at hlen; omega
      refine ⟨z :: zs, LEv.bd z z1 (LEv.bd zs s1 (Ev.now _)), Ev.step (fun m => notaryref32_Renumbered.l0.eq_2 ..) (LEv.pos (by rw [he]; exact lenlt _ _ _) (LEv.pos (by omega) ?_)), by simp [s3], fun q hq => by
        rcases List.mem_cons.1 hq with rfl | hq
        · exact z3
        · exact s4 q hq⟩
      rw [e1]
      refine LEv.bd _ z2 (LEv.pos (by omega) ?_)
      dsimp only [tup]
      rw [mk_eta, up1 _ (by omega), ← len1 pre y, show out ++ z :: zs = out ++ [z] ++ zs by simp]
      exact s2
  obtain ⟨v, v1, v2, v3⟩ := named_both x
  have fin : ∀ (N : Int), Ev (fun m => decls_walk.num m pl x) N → ∃ y : T, Ev (fun m => decls_walk.f m pl x) y ∧ Ev (fun m => notaryref32_Renumbered.j1 m pl x.f0 x.f1 x.f2 x.f3 x.f4 x.f5 x.f0 N x.f2 [] x.f4 x.f5) (tup y) ∧ Small (n + 1) y := fun N hN => by
    obtain ⟨ys, s1, s2, s3, s4⟩ := key x.f3 [] [] N rfl rfl
    exact ⟨⟨x.f0, N, x.f2, ys, x.f4, x.f5⟩, Ev.step (fun m => decls_walk.f.eq_2 ..) (LEv.bd N hN (LEv.pos (by omega) (LEv.bd ys s1 (Ev.now _)))), Ev.step (fun m => notaryref32_Renumbered.j1.eq_2 ..) s2, Small.mk n _ (by show ys.length ≤ 400; omega) s4⟩
  by_cases hv : v ≥ 0
  · by_cases hk : x.f0 = 13
    · obtain ⟨p, hp⟩ := place_some pl v
      obtain ⟨y, y1, y2, y3⟩ := fin (wrap64 (wrap64 (p * 64) + Int.tmod x.f1 64)) (LEv.bd v v1 (LEv.pos hv (LEv.pos hk (LEv.eqb hp (Ev.now _)))))
      refine ⟨y, y1, Ev.step (fun m => notaryref32_Renumbered.f.eq_2 ..) (LEv.sb (LEv.bd v v2 (LEv.pos hv ?_))), y3⟩
      rw [show (x.f0 == 13) = true by simpa using hk]
      exact Ev.step (fun m => notaryref32_Renumbered.j0.eq_2 ..) (LEv.pos rfl (LEv.bd v v2 (LEv.eqb ((place_same pl v).symm.trans hp) y2)))
    · obtain ⟨p, hp⟩ := place_some pl v
      have hvx : v = x.f1 := v3 hv hk
      obtain ⟨y, y1, y2, y3⟩ := fin p (LEv.bd v v1 (LEv.pos hv (LEv.neg hk (by rw [hp]; exact Ev.now _))))
      refine ⟨y, y1, Ev.step (fun m => notaryref32_Renumbered.f.eq_2 ..) (LEv.sb (LEv.bd v v2 (LEv.pos hv ?_))), y3⟩
      rw [show (x.f0 == 13) = false by simpa using hk]
      refine Ev.step (fun m => notaryref32_Renumbered.j0.eq_2 ..) (LEv.neg (by decide) (LEv.bd v v2 (LEv.pos hv (LEv.eqb (a := p) ?_ y2))))
      rw [← hvx]
      exact (place_same pl v).symm.trans hp
  · obtain ⟨y, y1, y2, y3⟩ := fin x.f1 (LEv.bd v v1 (LEv.neg hv (Ev.now _)))
    exact ⟨y, y1, Ev.step (fun m => notaryref32_Renumbered.f.eq_2 ..) (LEv.sb (LEv.bd v v2 (LEv.neg hv (Ev.step (fun m => notaryref32_Renumbered.j0.eq_2 ..) (LEv.neg (by decide) (LEv.bd v v2 (LEv.neg hv y2))))))), y3⟩
theorem names_both (i : Int) (x : T) : ∀ n, Small n x → ∃ b, Ev (fun m => decls_names.g m x i) b ∧ Ev (fun m => notaryref32_Names.f m x.f0 x.f1 x.f2 x.f3 x.f4 x.f5 i) b := by
  induction x using LTerm.ind with
  | h x ih =>
  intro n hS
  have hlen := hS.len
  obtain ⟨n, rfl⟩ : ∃ k, n = k + 1 := by cases hS; exact ⟨_, rfl⟩
  have key : ∀ (rest pre : List T), x.f3 = pre ++ rest → ∃ j : Int, Ev (fun m => decls_names.idx (fun y => decls_names.g m y i) rest (pre.length : Int)) j ∧ Ev (fun m => notaryref32_Names.l0 m i (pre.length : Int) x.f0 x.f1 x.f2 x.f3 x.f4 x.f5) (decide (0 ≤ j)) := by
    intro rest
    induction rest with
    | nil => exact fun pre he => ⟨-1, Ev.now _, Ev.step (fun m => notaryref32_Names.l0.eq_2 ..) (LEv.neg (by rw [he]; simp) (Ev.now _))⟩
    | cons y rest ih2 =>
      intro pre he
      obtain ⟨b, b1, b2⟩ := ih y (by rw [he]; simp) n (hS.sub (by rw [he]; simp))
      obtain ⟨j, j1, j2⟩ := ih2 (pre ++ [y]) (by rw [he]; simp)
      have e1 : rd_T24 x.f3 (pre.length : Int) = y := by rw [he]; exact rdT _ _ _
      have hpl : pre.length < 400 := by rw [he] at hlen; simp at hlen; omega
      have hj1 : Ev (fun m => decls_names.idx (fun y => decls_names.g m y i) rest ((pre.length : Int) + 1)) j := by
        rw [show (pre.length : Int) + 1 = ((pre ++ [y]).length : Int) by simp]
        exact j1
      cases b with
      | true =>
        refine ⟨(pre.length : Int), LEv.bd true b1 (LEv.pos rfl (Ev.now _)), Ev.step (fun m => notaryref32_Names.l0.eq_2 ..) (LEv.pos (by rw [he]; exact lenlt _ _ _) (LEv.pos (by omega) ?_))⟩
        rw [e1]
        exact LEv.bd true b2 (LEv.pos rfl (LEv.fin (by simp)))
      | false =>
        refine ⟨j, LEv.bd false b1 (LEv.neg (by decide) hj1), Ev.step (fun m => notaryref32_Names.l0.eq_2 ..) (LEv.pos (by rw [he]; exact lenlt _ _ _) (LEv.pos (by omega) ?_))⟩
        rw [e1]
        refine LEv.bd false b2 (LEv.neg (by decide) ?_)
        rw [up1 _ (by omega), ← len1 pre y]
        exact j2
  obtain ⟨v, v1, v2, _⟩ := named_both x
  by_cases hv : v = i
  · exact ⟨true, Ev.step (fun m => decls_names.g.eq_2 ..) (LEv.pos (by omega) (LEv.bd v v1 (LEv.pos hv (Ev.now _)))), Ev.step (fun m => notaryref32_Names.f.eq_2 ..) (LEv.bd v v2 (LEv.pos hv (Ev.now _)))⟩
  · obtain ⟨j, j1, j2⟩ := key x.f3 [] rfl
    exact ⟨decide (0 ≤ j), Ev.step (fun m => decls_names.g.eq_2 ..) (LEv.pos (by omega) (LEv.bd v v1 (LEv.neg hv (LEv.bd j j1 (Ev.now _))))), Ev.step (fun m => notaryref32_Names.f.eq_2 ..) (LEv.bd v v2 (LEv.neg hv j2))⟩
abbrev Tup7 := Int × Int × ByteArray × List T × Int × Int × Bool
def bad : Tup7 := (0, 0, ⟨#[]⟩, [], 0, 0, false)
/-- the term of an answer is small -/
def SmallR (n : Nat) (r : Tup7) : Prop := r.2.2.2.1.length ≤ 400 ∧ ∀ k, n = k + 1 → ∀ y ∈ r.2.2.2.1, Small k y
theorem SmallR.bad (n : Nat) : SmallR n bad := ⟨by decide, fun k _ y hy => by cases hy⟩
/-- without a declaration: one answer, and when there is one -/
theorem drop_both (x : T) (i : Int) (n : Nat) (hS : Small (n + 1) x) : ∃ r : Tup7, Ev (fun m => decls_Drop.f m x.f0 x.f1 x.f2 x.f3 x.f4 x.f5 i) r ∧ Ev (fun m => notaryref32_Drop.f m x.f0 x.f1 x.f2 x.f3 x.f4 x.f5 i) r ∧ (r.2.2.2.2.2.2 = true → 0 ≤ i ∧ i < (x.f3.length : Int)) ∧ SmallR (n + 1) r := by
  have hlen := hS.len
  have hl : x.f3.length < 1000000000 := by omega
  have jt : Ev (fun m => notaryref32_Drop.j0 m i true x.f0 x.f1 x.f2 x.f3 x.f4 x.f5) bad := Ev.step (fun m => notaryref32_Drop.j0.eq_2 ..) (LEv.pos rfl (Ev.now _))
  by_cases h0 : x.f0 = 36
  case neg => exact ⟨bad, Ev.congr (fun m => decls_Drop.f.eq_1 ..) (LEv.pos hl (LEv.neg h0 (Ev.now _))), Ev.congr (fun m => notaryref32_Drop.f.eq_1 ..) (LEv.neg h0 jt), (fun h => by cases h), SmallR.bad _⟩
  by_cases h1 : i < 0
  · exact ⟨bad, Ev.congr (fun m => decls_Drop.f.eq_1 ..) (LEv.pos hl (LEv.pos h0 (LEv.pos h1 (Ev.now _)))), Ev.congr (fun m => notaryref32_Drop.f.eq_1 ..) (LEv.pos h0 (LEv.pos h1 jt)), (fun h => by cases h), SmallR.bad _⟩
  by_cases h2 : (x.f3.length : Int) ≤ i
  · exact ⟨bad, Ev.congr (fun m => decls_Drop.f.eq_1 ..) (LEv.pos hl (LEv.pos h0 (LEv.neg h1 (LEv.pos h2 (Ev.now _))))), Ev.congr (fun m => notaryref32_Drop.f.eq_1 ..) (LEv.pos h0 (LEv.neg h1 (LEv.pos h2 jt))), (fun h => by cases h), SmallR.bad _⟩
  by_cases h3 : (rd_T24 x.f3 i).f0 = 33 ∧ (rd_T24 x.f3 i).f1 = 1
  · refine ⟨bad, Ev.congr (fun m => decls_Drop.f.eq_1 ..) (LEv.pos hl (LEv.pos h0 (LEv.neg h1 (LEv.neg h2 (LEv.pos h3 (Ev.now _)))))), Ev.congr (fun m => notaryref32_Drop.f.eq_1 ..) (LEv.pos h0 (LEv.neg h1 (LEv.neg h2 (LEv.pos (by omega) (LEv.pos (by omega) (LEv.pos h3.1 ?_)))))), (fun h => by cases h), SmallR.bad _⟩
    rw [show ((rd_T24 x.f3 i).f1 == 1) = true by simpa using h3.2]
    exact jt
  have key : ∀ (rest pre out : List T), x.f3 = pre ++ rest → out.length ≤ pre.length → ∃ q : List T × Bool, Ev (fun m => decls_Drop.rest m i (less i x.f3.length) rest (pre.length : Int) out) q ∧ Ev (fun m => notaryref32_Drop.l0 m i out (pre.length : Int) x.f0 x.f1 x.f2 x.f3 x.f4 x.f5) (if q.2 = true then (x.f0, x.f1, x.f2, q.1, x.f4, x.f5, true) else bad) ∧ q.1.length ≤ out.length + rest.length ∧ ((∀ y ∈ out, Small n y) → ∀ y ∈ q.1, Small n y) := by
    intro rest
    induction rest with
    | nil => exact fun pre out he ho => ⟨(out, true), Ev.now _, Ev.step (fun m => notaryref32_Drop.l0.eq_2 ..) (LEv.neg (by rw [he]; simp) (Ev.now _)), Nat.le_refl _, fun h => h⟩
    | cons y rest ih2 =>
      intro pre out he ho
      have e1 : rd_T24 x.f3 (pre.length : Int) = y := by rw [he]; exact rdT _ _ _
      have hpl : pre.length < 400 := by rw [he] at hlen; simp at hlen; omega
      have hlt : (pre.length : Int) < (x.f3.length : Int) := by rw [he]; exact lenlt _ _ _
      have hy : Small n y := hS.sub (by rw [he]; simp)
      by_cases hj : (pre.length : Int) = i
      · obtain ⟨q, q1, q2, q3, q4⟩ := ih2 (pre ++ [y]) out (by rw [he]; simp) (by simp; omega)
        refine ⟨q, LEv.pos hj ?_, Ev.step (fun m => notaryref32_Drop.l0.eq_2 ..) (LEv.pos hlt (LEv.pos hj (Ev.step (fun m => notaryref32_Drop.j2.eq_2 ..) (LEv.neg (by decide) (LEv.pos hj ?_))))), by simp; omega, q4⟩
        · rw [show (pre.length : Int) + 1 = ((pre ++ [y]).length : Int) by simp]
          exact q1
        · rw [up1 _ (by omega), ← len1 pre y]
          exact q2
      · obtain ⟨b, b1, b2⟩ := names_both i y n hy
        cases b with
        | true =>
          refine ⟨([], false), LEv.neg hj (LEv.bd true b1 (LEv.pos rfl (Ev.now _))), Ev.step (fun m => notaryref32_Drop.l0.eq_2 ..) (LEv.pos hlt (LEv.neg hj (LEv.pos (by omega) ?_))), by simp, fun _ y hy => by cases hy⟩
          rw [e1]
          exact LEv.bd true b2 (Ev.step (fun m => notaryref32_Drop.j2.eq_2 ..) (LEv.pos rfl (Ev.now _)))
        | false =>
          obtain ⟨z, z1, z2, z3⟩ := ren_both (less i x.f3.length) y n hy
          obtain ⟨q, q1, q2, q3, q4⟩ := ih2 (pre ++ [y]) (out ++ [z]) (by rw [he]; simp) (by simp; omega)
          refine ⟨q, LEv.neg hj (LEv.bd false b1 (LEv.neg (by decide) (LEv.bd z z1 (LEv.pos (by omega) ?_)))), Ev.step (fun m => notaryref32_Drop.l0.eq_2 ..) (LEv.pos hlt (LEv.neg hj (LEv.pos (by omega) ?_))), by simp at q3 ⊢; omega, fun h => q4 (fun u hu => by
            rcases List.mem_append.1 hu with hu | hu
            · exact h u hu
            · rw [List.mem_singleton] at hu
              rw [hu]
              exact z3)⟩
          · rw [show (pre.length : Int) + 1 = ((pre ++ [y]).length : Int) by simp]
            exact q1
          · rw [e1]
            refine LEv.bd false b2 (Ev.step (fun m => notaryref32_Drop.j2.eq_2 ..) (LEv.neg (by decide) (LEv.neg hj (LEv.pos (by omega) (LEv.pos hlt (LEv.bd _ (less_ref i x.f3.length (by omega)) ?_))))))
            rw [e1]
            refine LEv.bd _ z2 (LEv.pos (by omega) ?_)
            dsimp only [tup]
            rw [mk_eta, up1 _ (by omega), ← len1 pre y]
            exact q2
  obtain ⟨q, q1, q2, q3, q4⟩ := key x.f3 [] [] rfl (Nat.le_refl _)
  refine ⟨if q.2 = true then (x.f0, x.f1, x.f2, q.1, x.f4, x.f5, true) else bad, Ev.congr (fun m => decls_Drop.f.eq_1 ..) (LEv.pos hl (LEv.pos h0 (LEv.neg h1 (LEv.neg h2 (LEv.neg h3 (LEv.bd _ (less_own i x.f3.length (by omega)) (LEv.bd q q1 (Ev.now _)))))))), Ev.congr (fun m => notaryref32_Drop.f.eq_1 ..) (LEv.pos h0 (LEv.neg h1 (LEv.neg h2 (LEv.pos (by omega) (LEv.pos (by omega) ?_))))), (fun _ => ⟨by omega, by omega⟩), ?_⟩
  rotate_left
  · split
    · refine ⟨by simp at q3; show q.1.length ≤ 400; omega, fun k hk y hy => ?_⟩
      obtain rfl : n = k := by omega
      exact q4 (fun y hy => by cases hy) y hy
    · exact SmallR.bad _
  have jf : Ev (fun m => notaryref32_Drop.j0 m i false x.f0 x.f1 x.f2 x.f3 x.f4 x.f5) (if q.2 = true then (x.f0, x.f1, x.f2, q.1, x.f4, x.f5, true) else bad) := Ev.step (fun m => notaryref32_Drop.j0.eq_2 ..) (LEv.neg (by decide) q2)
  by_cases h4 : (rd_T24 x.f3 i).f0 = 33
  · refine LEv.pos h4 ?_
    rw [show ((rd_T24 x.f3 i).f1 == 1) = false by simpa using fun h => h3 ⟨h4, h⟩]
    exact jf
  · exact LEv.neg h4 jf
theorem not_order_bad {b c : Bool} {l : List Int} {n : Nat} (h1 : b = true ↔ Order l n) (h2 : c = true ↔ Order l n) : b = c := by
  cases b <;> cases c
  · rfl
  · exact absurd (h1.2 (h2.1 rfl)) (by decide)
  · exact absurd (h2.2 (h1.1 rfl)) (by decide)
  · rfl
theorem cov_nil : ∀ n, cov n [] = 0
  | 0 => rfl
  | n + 1 => by rw [cov, cov_nil n]; simp
theorem order_in (l : List Int) (n : Nat) (h : Order l n) : ∀ x ∈ l, 0 ≤ x ∧ x < (n : Int) := by
  intro x hx
  obtain ⟨pre, rest, rfl⟩ := List.append_of_mem hx
  by_cases hb : 0 ≤ x ∧ x < (n : Int)
  · exact hb
  · have h5 := cov_app n (pre ++ [x]) rest
    have h6 := cov_snoc x n pre
    rw [if_neg (fun h => hb ⟨h.1, h.2.1⟩)] at h6
    have h7 := cov_app n [] pre
    have h8 := cov_nil n
    have h9 := h.1
    have h10 := h.2
    rw [show pre ++ x :: rest = pre ++ [x] ++ rest by simp] at h10
    simp at h9 h7
    omega
/-- in another order: one answer, and when there is one -/
theorem perm_both (x : T) (l : List Int) (n : Nat) (hS : Small (n + 1) x) (hl : l.length ≤ 400) : ∃ r : Tup7, Ev (fun m => decls_Perm.f m x.f0 x.f1 x.f2 x.f3 x.f4 x.f5 l) r ∧ Ev (fun m => notaryref32_Perm.f m x.f0 x.f1 x.f2 x.f3 x.f4 x.f5 l) r ∧ (r.2.2.2.2.2.2 = true → Order l x.f3.length) ∧ SmallR (n + 1) r := by
  have hlen := hS.len
  have hl2 : x.f3.length < 1000000000 ∧ l.length < 1000000000 := by omega
  obtain ⟨o, b, o1, o2, o3⟩ := inv_own l x.f3.length hlen hl
  obtain ⟨p, c, p1, p2, p3⟩ := to_ref l x.f3.length hlen hl
  obtain rfl := not_order_bad o2 p2
  have jt : Ev (fun m => notaryref32_Perm.j0 m l p true x.f0 x.f1 x.f2 x.f3 x.f4 x.f5) bad := Ev.step (fun m => notaryref32_Perm.j0.eq_2 ..) (LEv.pos rfl (Ev.now _))
  by_cases h0 : x.f0 = 36
  case neg => exact ⟨bad, Ev.congr (fun m => decls_Perm.f.eq_1 ..) (LEv.pos hl2 (LEv.bd _ o1 (LEv.neg (fun h => h0 h.1) (Ev.now _)))), Ev.congr (fun m => notaryref32_Perm.f.eq_1 ..) (LEv.bd _ p1 (LEv.neg h0 jt)), (fun h => by cases h), SmallR.bad _⟩
  cases b with
  | false => exact ⟨bad, Ev.congr (fun m => decls_Perm.f.eq_1 ..) (LEv.pos hl2 (LEv.bd _ o1 (LEv.neg (fun h => by cases h.2) (Ev.now _)))), Ev.congr (fun m => notaryref32_Perm.f.eq_1 ..) (LEv.bd _ p1 (LEv.pos h0 jt)), (fun h => by cases h), SmallR.bad _⟩
  | true =>
    obtain rfl := o3 rfl
    obtain rfl := p3 rfl
    have hord := o2.1 rfl
    have hin := order_in l _ hord
    have key : ∀ (rest pre : List Int) (out : List T), l = pre ++ rest → out.length ≤ pre.length → ∃ q : List T, Ev (fun m => decls_Perm.rest m (places l x.f3.length) x.f3 rest out) q ∧ Ev (fun m => notaryref32_Perm.l0 m l (places l x.f3.length) out (pre.length : Int) x.f0 x.f1 x.f2 x.f3 x.f4 x.f5) (x.f0, x.f1, x.f2, q, x.f4, x.f5, true) ∧ q.length = out.length + rest.length ∧ ((∀ y ∈ out, Small n y) → ∀ y ∈ q, Small n y) := by
      intro rest
      induction rest with
      | nil => exact fun pre out he ho => ⟨out, Ev.now _, Ev.step (fun m => notaryref32_Perm.l0.eq_2 ..) (LEv.neg (by rw [he]; simp) (Ev.now _)), rfl, fun h => h⟩
      | cons y rest ih2 =>
        intro pre out he ho
        have e1 : rd l (pre.length : Int) = y := by rw [he]; exact rdI _ _ _
        have hlt : (pre.length : Int) < (l.length : Int) := by rw [he]; exact lenlt _ _ _
        obtain ⟨y0, y1⟩ := hin y (by rw [he]; simp)
        have hsub : Small n (rd_T24 x.f3 y) := by
          obtain ⟨k, rfl⟩ := Int.eq_ofNat_of_zero_le y0
          have hk : k < x.f3.length := by omega
          have : rd_T24 x.f3 (k : Int) = x.f3[k] := by unfold rd_T24; simp [List.getD_eq_getElem?_getD, List.getElem?_eq_getElem hk]
          rw [this]
          exact hS.sub (List.getElem_mem _)
        obtain ⟨z, z1, z2, z3⟩ := ren_both (places l x.f3.length) _ n hsub
        obtain ⟨q, q1, q2, q3, q4⟩ := ih2 (pre ++ [y]) (out ++ [z]) (by rw [he]; simp) (by simp; omega)
        refine ⟨q, LEv.pos ⟨y0, y1⟩ (LEv.bd z z1 (LEv.pos (by omega) q1)), Ev.step (fun m => notaryref32_Perm.l0.eq_2 ..) (LEv.pos hlt (LEv.pos (by omega) ?_)), by simp at q3 ⊢; omega, fun h => q4 (fun u hu => by
            rcases List.mem_append.1 hu with hu | hu
            · exact h u hu
            · rw [List.mem_singleton] at hu
              rw [hu]
              exact z3)⟩
        rw [e1]
        refine LEv.pos y0 (LEv.pos y1 (LEv.bd _ z2 (LEv.pos (by omega) ?_)))
        dsimp only [tup]
        rw [mk_eta, up1 _ (by omega), ← len1 pre y]
        exact q2
    obtain ⟨q, q1, q2, q3, q4⟩ := key l [] [] rfl (Nat.le_refl _)
    exact ⟨_, Ev.congr (fun m => decls_Perm.f.eq_1 ..) (LEv.pos hl2 (LEv.bd _ o1 (LEv.pos ⟨h0, rfl⟩ (LEv.bd q q1 (Ev.now _))))), Ev.congr (fun m => notaryref32_Perm.f.eq_1 ..) (LEv.bd _ p1 (LEv.pos h0 (Ev.step (fun m => notaryref32_Perm.j0.eq_2 ..) (LEv.neg (by simp) q2)))), (fun _ => hord), by simp at q3; have := hord.1; show q.length ≤ 400; omega, fun k hk y hy => by
      obtain rfl : n = k := by omega
      exact q4 (fun y hy => by cases hy) y hy⟩
/-- the right side of a left one, and when there is one -/
theorem side_ref (rule : Int) (l : List Int) (x : T) (n : Nat) (hS : Small (n + 1) x) (hl : l.length ≤ 400) : ∃ r : Tup7, Ev (fun m => notaryref32_Side.f m rule l x.f0 x.f1 x.f2 x.f3 x.f4 x.f5) r ∧ (r.2.2.2.2.2.2 = true → (rule = 50 → Order l x.f3.length) ∧ (rule = 51 → l.length = 1)) := by
  by_cases h1 : rule = 50
  · obtain ⟨r, r1, r2, r3, _⟩ := perm_both x l n hS hl
    exact ⟨r, Ev.congr (fun m => notaryref32_Side.f.eq_1 ..) (LEv.pos h1 (LEv.bd r r2 (Ev.now _))), fun h => ⟨fun _ => r3 h, fun h2 => by omega⟩⟩
  by_cases h2 : rule = 51
  · by_cases h3 : (l.length : Int) = 1
    · obtain ⟨r, r1, r2, r3, _⟩ := drop_both x (rd l 0) n hS
      exact ⟨r, Ev.congr (fun m => notaryref32_Side.f.eq_1 ..) (LEv.neg h1 (LEv.pos h2 (LEv.pos h3 (LEv.pos (by omega) (LEv.bd r r2 (Ev.now _)))))), fun _ => ⟨fun h => absurd h h1, fun _ => by omega⟩⟩
    · exact ⟨bad, Ev.congr (fun m => notaryref32_Side.f.eq_1 ..) (LEv.neg h1 (LEv.pos h2 (LEv.neg h3 (Ev.now _)))), fun h => by cases h⟩
  · exact ⟨bad, Ev.congr (fun m => notaryref32_Side.f.eq_1 ..) (LEv.neg h1 (LEv.neg h2 (Ev.now _))), fun h => by cases h⟩
abbrev Pr := S57
/-- the pairs of a list of places -/
def prs : List Int → Nat → List Pr
  | [], _ => []
  | b :: l, a => if b ≥ 0 then ⟨(a : Int), b⟩ :: prs l (a + 1) else prs l (a + 1)
theorem prs_len : ∀ (l : List Int) (a : Nat), (prs l a).length ≤ l.length
  | [], a => Nat.le_refl _
  | b :: l, a => by
    have := prs_len l (a + 1)
    rw [prs]
    split <;> simp <;> omega
theorem pairs_own (l : List Int) (hl : l.length ≤ 400) : Ev (fun m => decls_Pairs.j1 m l) (prs l 0) := by
  have key : ∀ (rest pre : List Int) (out : List Pr), l = pre ++ rest → out.length ≤ pre.length → Ev (fun m => decls_Pairs.l0 m out l (l.length : Int) (pre.length : Int)) (out ++ prs rest pre.length) := by
    intro rest
    induction rest with
    | nil => exact fun pre out he ho => Ev.step (fun m => decls_Pairs.l0.eq_2 ..) (LEv.neg (by rw [he]; simp) (LEv.fin (by simp [prs])))
    | cons y rest ih =>
      intro pre out he ho
      have e1 : rd l (pre.length : Int) = y := by rw [he]; exact rdI _ _ _
      have hlt : (pre.length : Int) < (l.length : Int) := by rw [he]; exact lenlt _ _ _
      refine Ev.step (fun m => decls_Pairs.l0.eq_2 ..) (LEv.pos hlt (LEv.pos (by omega) (LEv.pos hlt ?_)))
      rw [e1]
      by_cases hy : y ≥ 0
      · refine LEv.pos hy (LEv.pos (by omega) ?_)
        have h2 := ih (pre ++ [y]) (out ++ [⟨(pre.length : Int), y⟩]) (by rw [he]; simp) (by simp; omega)
        rw [up1 _ (by omega), ← len1 pre y, prs, if_pos hy]
        simpa using h2
      · refine LEv.neg hy ?_
        have h2 := ih (pre ++ [y]) out (by rw [he]; simp) (by simp; omega)
        rw [up1 _ (by omega), ← len1 pre y, prs, if_neg hy]
        simpa using h2
  exact Ev.step (fun m => decls_Pairs.j1.eq_2 ..) (key l [] [] rfl (Nat.le_refl _))
theorem pairs_ref (l : List Int) (hl : l.length ≤ 400) : Ev (fun m => notaryref32_Pairs.j2 m l) (prs l 0) := by
  have key : ∀ (rest pre : List Int) (out : List Pr), l = pre ++ rest → out.length ≤ pre.length → Ev (fun m => notaryref32_Pairs.l0 m l out (pre.length : Int)) (out ++ prs rest pre.length) := by
    intro rest
    induction rest with
    | nil => exact fun pre out he ho => Ev.step (fun m => notaryref32_Pairs.l0.eq_2 ..) (LEv.neg (by rw [he]; simp) (LEv.fin (by simp [prs])))
    | cons y rest ih =>
      intro pre out he ho
      have e1 : rd l (pre.length : Int) = y := by rw [he]; exact rdI _ _ _
      have hlt : (pre.length : Int) < (l.length : Int) := by rw [he]; exact lenlt _ _ _
      refine Ev.step (fun m => notaryref32_Pairs.l0.eq_2 ..) (LEv.pos hlt (LEv.pos (by omega) ?_))
      rw [e1]
      by_cases hy : y ≥ 0
      · refine LEv.pos hy (LEv.pos (by omega) ?_)
        have h2 := ih (pre ++ [y]) (out ++ [⟨(pre.length : Int), y⟩]) (by rw [he]; simp) (by simp; omega)
        rw [up1 _ (by omega), ← len1 pre y, prs, if_pos hy]
        simpa using h2
      · refine LEv.neg hy ?_
        have h2 := ih (pre ++ [y]) out (by rw [he]; simp) (by simp; omega)
        rw [up1 _ (by omega), ← len1 pre y, prs, if_neg hy]
        simpa using h2
  exact Ev.step (fun m => notaryref32_Pairs.j2.eq_2 ..) (key l [] [] rfl (Nat.le_refl _))
theorem same_pairs (l : List Pr) (hl : l.length ≤ 400) : Ev (fun m => notaryref32_SamePairs.f m l l) true := by
  have key : ∀ (r : Nat) (i : Nat), i + r = l.length → Ev (fun m => notaryref32_SamePairs.l0 m l l (i : Int)) true := by
    intro r
    induction r with
    | zero => exact fun i hi => Ev.step (fun m => notaryref32_SamePairs.l0.eq_2 ..) (LEv.neg (by omega) (Ev.now _))
    | succ r ih =>
      intro i hi
      refine Ev.step (fun m => notaryref32_SamePairs.l0.eq_2 ..) (LEv.pos (by omega) (LEv.pos (by omega) (LEv.pos (by omega) (LEv.neg (by simp) ?_))))
      rw [up1 _ (by omega)]
      exact ih (i + 1) (by omega)
  exact Ev.congr (fun m => notaryref32_SamePairs.f.eq_1 ..) (LEv.pos rfl (key l.length 0 (by omega)))
theorem awake_ev : Ev (fun m => notarylaw32_awake.f m) true := by
  have hS : Small 2 (⟨36, 0, ⟨#[]⟩, [⟨32, 0, ⟨#[]⟩, [], 0, 0⟩, ⟨31, 0, ⟨#[]⟩, [], 0, 0⟩], 0, 0⟩ : T) := Small.mk 1 _ (by decide) (fun y hy => by
    rcases List.mem_cons.1 hy with rfl | hy
    · exact Small.mk 0 _ (by decide) (fun y hy => by cases hy)
    · rcases List.mem_cons.1 hy with rfl | hy
      · exact Small.mk 0 _ (by decide) (fun y hy => by cases hy)
      · cases hy)
  refine ⟨9, fun m hm => ?_⟩
  obtain ⟨n, rfl⟩ : ∃ n, m = n + 9 := ⟨m - 9, by omega⟩
  simp [notarylaw32_awake.f, decls_Drop.f, decls_Drop.rest, decls_without.f, decls_without.l0, decls_names.g, decls_names.idx, decls_named.f, decls_named.j0, decls_walk.f, decls_walk.num, decls_walk.all, rd_T24, wrap64]
end Go.Proofs.Ytgjmidpoebnieaa.LDecls
