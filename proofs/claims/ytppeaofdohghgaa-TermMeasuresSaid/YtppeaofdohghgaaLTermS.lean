/- Terms: being alike, what stands at a path, and what is put there. -/
import Derived.Test.YtppeaofdohghgaaLTerm
import Derived.Test.YtppeaofdohghgaaPTmx1
import Derived.Test.YtppeaofdohghgaaPTmx2
import Derived.Test.YtppeaofdohghgaaPTmx3
import Derived.Test.YtppeaofdohghgaaPTmx4
namespace Go.Proofs.Ytppeaofdohghgaa.LTerm
open Go.RowKit Go.Proofs.Ytppeaofdohghgaa.PTm Go.Proofs.YtppeaofdohghgaaW.PrintWords Go.Proofs.YtppeaofdohghgaaW.PrintLast Go.Proofs.YtppeaofdohghgaaW.PrintMore
set_option linter.unusedVariables false
set_option linter.unusedSimpArgs false
theorem awake_ev : Ev (fun m => notarylaw06_awake.f m) true := by
  refine ⟨5, fun m hm => ?_⟩
  obtain ⟨n, rfl⟩ : ∃ n, m = n + 5 := ⟨m - 5, by omega⟩
  simp [notarylaw06_awake.f, term_Size.f, term_walk.f, term_walk.all, term_meter.see, term_Same.f, term_Same.eqs, wrap64]
theorem eqs_ev {g : Nat → T → T → Option Bool} {s : T → T → Bool} : ∀ (xs ys : List T), xs.length = ys.length → (∀ x ∈ xs, ∀ y ∈ ys, Ev (fun m => g m x y) (s x y)) → Ev (fun m => term_Same.eqs (g m) xs ys) ((xs.zip ys).all fun p => s p.1 p.2)
  | [], [], _, _ => Ev.now _
  | [], _ :: _, h, _ => by simp at h
  | _ :: _, [], h, _ => by simp at h
  | x :: xs, y :: ys, h, hg => by
    have h1 := hg x List.mem_cons_self y List.mem_cons_self
    have h2 := eqs_ev xs ys (by simpa using h) (fun a ha b hb => hg a (List.mem_cons_of_mem _ ha) b (List.mem_cons_of_mem _ hb))
    refine LEv.bd _ h1 ?_
    cases hs : s x y with
    | true => refine LEv.pos rfl (LEv.val ?_ h2); simp [hs]
    | false => refine LEv.neg (by decide) (LEv.fin ?_); simp [hs]
/-- the two programs' answers are one -/
theorem same_both (a : T) : ∀ b : T, Fine a → ∃ r, Ev (fun m => term_Same.f m a.f0 a.f1 a.f2 a.f3 a.f4 a.f5 b.f0 b.f1 b.f2 b.f3 b.f4 b.f5) r ∧ Ev (fun m => notaryref06_Same.f m a.f0 a.f1 a.f2 a.f3 a.f4 a.f5 b.f0 b.f1 b.f2 b.f3 b.f4 b.f5) r := by
  induction a using ind with
  | h a ih =>
  intro b hF
  have hlen := hF.len
  have jt : Ev (fun m => notaryref06_Same.j0 m true a.f0 a.f1 a.f2 a.f3 a.f4 a.f5 b.f0 b.f1 b.f2 b.f3 b.f4 b.f5) false := Ev.step (fun m => notaryref06_Same.j0.eq_2 ..) (LEv.pos rfl (Ev.now _))
  by_cases h0 : a.f0 = b.f0
  case neg => exact ⟨false, Ev.step (fun m => term_Same.f.eq_2 ..) (LEv.neg h0 (Ev.now _)), Ev.step (fun m => notaryref06_Same.f.eq_2 ..) (LEv.neg h0 jt)⟩
  by_cases h1 : a.f1 = b.f1
  case neg => exact ⟨false, Ev.step (fun m => term_Same.f.eq_2 ..) (LEv.pos h0 (LEv.neg h1 (Ev.now _))), Ev.step (fun m => notaryref06_Same.f.eq_2 ..) (LEv.pos h0 (LEv.neg h1 jt))⟩
  by_cases h2 : a.f2.toList = b.f2.toList
  case neg => exact ⟨false, Ev.step (fun m => term_Same.f.eq_2 ..) (LEv.pos h0 (LEv.pos h1 (LEv.neg h2 (Ev.now _)))), Ev.step (fun m => notaryref06_Same.f.eq_2 ..) (LEv.pos h0 (LEv.pos h1 (LEv.neg h2 jt)))⟩
  by_cases h3 : a.f3.length = b.f3.length
  case neg =>
    refine ⟨false, Ev.step (fun m => term_Same.f.eq_2 ..) (LEv.pos h0 (LEv.pos h1 (LEv.pos h2 (LEv.neg h3 (Ev.now _))))), Ev.step (fun m => notaryref06_Same.f.eq_2 ..) (LEv.pos h0 (LEv.pos h1 (LEv.pos h2 ?_)))⟩
    rw [show ((a.f3.length : Int) != (b.f3.length : Int)) = true by simp; omega]
    exact jt
  have key : ∀ (rest pre rest' pre' : List T), a.f3 = pre ++ rest → b.f3 = pre' ++ rest' → pre.length = pre'.length →
      ∃ r, Ev (fun m => term_Same.eqs (fun x y => term_Same.f m x.f0 x.f1 x.f2 x.f3 x.f4 x.f5 y.f0 y.f1 y.f2 y.f3 y.f4 y.f5) rest rest') r ∧ Ev (fun m => notaryref06_Same.l0 m (pre.length : Int) a.f0 a.f1 a.f2 a.f3 a.f4 a.f5 b.f0 b.f1 b.f2 b.f3 b.f4 b.f5) r := by
    intro rest
    induction rest with
    | nil =>
      intro pre rest' pre' ha hb hp
      obtain rfl : rest' = [] := List.eq_nil_of_length_eq_zero (by rw [ha, hb] at h3; simp at h3; omega)
      exact ⟨true, Ev.now _, Ev.step (fun m => notaryref06_Same.l0.eq_2 ..) (LEv.neg (by rw [ha]; simp) (Ev.now _))⟩
    | cons x rest ih2 =>
      intro pre rest' pre' ha hb hp
      cases rest' with
      | nil => rw [ha, hb] at h3; simp at h3; omega
      | cons y rest' =>
        obtain ⟨r, r1, r2⟩ := ih x (by rw [ha]; simp) y (hF.sub (by rw [ha]; simp))
        obtain ⟨s, s1, s2⟩ := ih2 (pre ++ [x]) rest' (pre' ++ [y]) (by rw [ha]; simp) (by rw [hb]; simp) (by simp [hp])
        have e1 : rd_T24 a.f3 (pre.length : Int) = x := by rw [ha]; exact rdT _ _ _
        have e2 : rd_T24 b.f3 (pre.length : Int) = y := by rw [hb, hp]; exact rdT _ _ _
        refine ⟨if r = true then s else false, LEv.bd r r1 ?_, Ev.step (fun m => notaryref06_Same.l0.eq_2 ..) (LEv.pos (by rw [ha]; exact lenlt _ _ _) (LEv.pos (by omega) (LEv.pos (by rw [hb, hp]; exact lenlt _ _ _) ?_)))⟩
        · cases r with
          | true => exact LEv.pos rfl s1
          | false => exact LEv.neg (by decide) (Ev.now _)
        · rw [e1, e2, up1 _ (by rw [ha] at hlen; simp at hlen; omega), ← len1 pre x]
          refine LEv.bd r r2 ?_
          cases r with
          | true => exact LEv.pos rfl s2
          | false => exact LEv.neg (by decide) (Ev.now _)
  obtain ⟨r, r1, r2⟩ := key a.f3 [] b.f3 [] rfl rfl rfl
  refine ⟨r, Ev.step (fun m => term_Same.f.eq_2 ..) (LEv.pos h0 (LEv.pos h1 (LEv.pos h2 (LEv.pos h3 r1)))), Ev.step (fun m => notaryref06_Same.f.eq_2 ..) (LEv.pos h0 (LEv.pos h1 (LEv.pos h2 ?_)))⟩
  rw [show ((a.f3.length : Int) != (b.f3.length : Int)) = false by simp; omega]
  exact Ev.step (fun m => notaryref06_Same.j0.eq_2 ..) (LEv.neg (by decide) r2)
theorem eqs_true {g : Nat → T → T → Option Bool} : ∀ (xs ys : List T), xs.length = ys.length → (∀ p ∈ xs.zip ys, Ev (fun m => g m p.1 p.2) true) → Ev (fun m => term_Same.eqs (g m) xs ys) true
  | [], [], _, _ => Ev.now _
  | [], _ :: _, h, _ => by simp at h
  | _ :: _, [], h, _ => by simp at h
  | x :: xs, y :: ys, h, hg => LEv.bd true (hg (x, y) (by simp)) (LEv.pos rfl (eqs_true xs ys (by simpa using h) (fun p hp => hg p (by simp [hp]))))
theorem same_self (a : T) : Ev (fun m => term_Same.f m a.f0 a.f1 a.f2 a.f3 a.f4 a.f5 a.f0 a.f1 a.f2 a.f3 a.f4 a.f5) true := by
  induction a using ind with
  | h a ih =>
  refine Ev.step (fun m => term_Same.f.eq_2 ..) (LEv.pos rfl (LEv.pos rfl (LEv.pos rfl (LEv.pos rfl ?_))))
  refine eqs_true a.f3 a.f3 rfl (fun p hp => ?_)
  have : ∀ l : List T, p ∈ l.zip l → p.1 = p.2 ∧ p.1 ∈ l := by
    intro l
    induction l with
    | nil => simp
    | cons x l ih => intro h; rcases List.mem_cons.1 h with rfl | h; exact ⟨rfl, List.mem_cons_self⟩; exact ⟨(ih h).1, List.mem_cons_of_mem _ (ih h).2⟩
  obtain ⟨e, hm⟩ := this a.f3 hp
  rw [← e]
  exact ih p.1 hm
/-- a copy without places: alike -/
theorem bare_ev (x : T) : ∀ n, Small n x → ∃ r : T, Ev (fun m => term_Bare.f m x) r ∧ Ev (fun m => term_Same.f m x.f0 x.f1 x.f2 x.f3 x.f4 x.f5 r.f0 r.f1 r.f2 r.f3 r.f4 r.f5) true := by
  induction x using ind with
  | h x ih =>
  intro n hS
  have hlen := hS.len
  obtain ⟨n, rfl⟩ : ∃ k, n = k + 1 := by cases hS; exact ⟨_, rfl⟩
  have key : ∀ l : List T, (∀ y ∈ l, y ∈ x.f3) → ∃ rs : List T, rs.length = l.length ∧ Ev (fun m => term_Bare.all (term_Bare.f m) l) rs ∧ ∀ p ∈ l.zip rs, Ev (fun m => term_Same.f m p.1.f0 p.1.f1 p.1.f2 p.1.f3 p.1.f4 p.1.f5 p.2.f0 p.2.f1 p.2.f2 p.2.f3 p.2.f4 p.2.f5) true := by
    intro l
    induction l with
    | nil => exact fun _ => ⟨[], rfl, Ev.now _, fun p hp => by simp at hp⟩
    | cons y l ih2 =>
      intro hl
      obtain ⟨r, r1, r2⟩ := ih y (hl y List.mem_cons_self) n (hS.sub (hl y List.mem_cons_self))
      obtain ⟨rs, s1, s2, s3⟩ := ih2 (fun z hz => hl z (List.mem_cons_of_mem _ hz))
      refine ⟨r :: rs, by simp [s1], LEv.bd r r1 (LEv.bd rs s2 (Ev.now _)), fun p hp => ?_⟩
      rcases List.mem_cons.1 hp with rfl | hp
      · exact r2
      · exact s3 p hp
  obtain ⟨rs, s1, s2, s3⟩ := key x.f3 (fun _ h => h)
  refine ⟨⟨x.f0, x.f1, x.f2, rs, 0, 0⟩, Ev.step (fun m => term_Bare.f.eq_2 ..) (LEv.pos (by omega) (LEv.bd rs s2 (Ev.now _))), Ev.step (fun m => term_Same.f.eq_2 ..) (LEv.pos rfl (LEv.pos rfl (LEv.pos rfl (LEv.pos s1.symm ?_))))⟩
  exact eqs_true (g := fun m x y => term_Same.f m x.f0 x.f1 x.f2 x.f3 x.f4 x.f5 y.f0 y.f1 y.f2 y.f3 y.f4 y.f5) x.f3 rs s1.symm s3
def atS : List Int → T → Option T
  | [], t => some t
  | i :: ps, t => if 0 ≤ i ∧ i < (t.f3.length : Int) then atS ps (rd_T24 t.f3 i) else none
def tupS : Option T → Int × Int × ByteArray × List T × Int × Int × Bool
  | some y => (y.f0, y.f1, y.f2, y.f3, y.f4, y.f5, true)
  | none => (0, 0, ⟨#[]⟩, [], 0, 0, false)
theorem rdI (pre : List Int) (r : Int) (rest : List Int) : rd (pre ++ r :: rest) (pre.length : Int) = r := by
  unfold rd
  simp [List.getD_eq_getElem?_getD]
theorem at_ev (p : List Int) (hp : p.length ≤ 100) (t : T) : Ev (fun m => term_At.f m t.f0 t.f1 t.f2 t.f3 t.f4 t.f5 p) (tupS (atS p t)) := by
  have key : ∀ (rest pre : List Int) (t : T), p = pre ++ rest → Ev (fun m => term_At.l0 m p (p.length : Int) (pre.length : Int) t.f0 t.f1 t.f2 t.f3 t.f4 t.f5) (tupS (atS rest t)) := by
    intro rest
    induction rest with
    | nil => exact fun pre t he => Ev.step (fun m => term_At.l0.eq_2 ..) (LEv.neg (by rw [he]; simp) (Ev.now _))
    | cons i rest ih =>
      intro pre t he
      have e1 : rd p (pre.length : Int) = i := by rw [he]; exact rdI _ _ _
      have e2 := up1 pre.length (by rw [he] at hp; simp at hp; omega)
      have e3 : (pre.length : Int) < (p.length : Int) := by rw [he]; exact lenlt _ _ _
      have hs := ih (pre ++ [i]) (rd_T24 t.f3 i) (by rw [he]; simp)
      rw [len1 pre i] at hs
      refine Ev.step (fun m => term_At.l0.eq_2 ..) (LEv.pos e3 (LEv.pos (by omega) (LEv.pos e3 ?_)))
      rw [e1, e2]
      by_cases h1 : i < 0
      · rw [atS, if_neg (by omega)]
        exact LEv.pos h1 (Ev.now _)
      · by_cases h2 : i ≥ (t.f3.length : Int)
        · rw [atS, if_neg (by omega)]
          exact LEv.neg h1 (LEv.pos h2 (Ev.now _))
        · rw [atS, if_pos (by omega)]
          exact LEv.neg h1 (LEv.neg h2 (LEv.pos (by omega) (LEv.pos (by omega) hs)))
  exact Ev.congr (fun m => term_At.f.eq_1 ..) (key p [] t rfl)
theorem rd_get (l : List T) (i : Int) (h0 : 0 ≤ i) (h1 : i < (l.length : Int)) : rd_T24 l i = l[i.toNat]'(by omega) := by
  unfold rd_T24
  simp [List.getD_eq_getElem?_getD, List.getElem?_eq_getElem (show i.toNat < l.length by omega)]
/-- what stands at a path, put there -/
theorem put_self : ∀ (p : List Int) (n : Nat) (t y : T), Small n t → atS p t = some y → term_Put.f p t y = some (t, true)
  | [], n, t, y, hS, h => by obtain rfl := Option.some.inj h; rfl
  | i :: ps, n, t, y, hS, h => by
    rw [atS] at h
    by_cases hi : 0 ≤ i ∧ i < (t.f3.length : Int)
    case neg => rw [if_neg hi] at h; exact absurd h (by simp)
    rw [if_pos hi] at h
    have hlen := hS.len
    obtain ⟨n, rfl⟩ : ∃ k, n = k + 1 := by cases hS; exact ⟨_, rfl⟩
    have hg := rd_get t.f3 i hi.1 hi.2
    have hsub : Small n (rd_T24 t.f3 i) := hS.sub (by rw [hg]; exact List.getElem_mem _)
    have ih := put_self ps n _ y hsub h
    rw [term_Put.f, if_pos hi, ih]
    simp only [Option.bind_some, if_true]
    rw [if_pos (by omega), hg, List.set_getElem_self]
    cases t
    rfl
end Go.Proofs.Ytppeaofdohghgaa.LTerm
