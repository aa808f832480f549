/- Terms: being alike, what stands at a path, and what is put there. -/
import Derived.Test.YtgjmidpoebnieaaLTerm
import Derived.Test.YtgjmidpoebnieaaPDmx15
import Derived.Test.YtgjmidpoebnieaaPDmx16
namespace Go.Proofs.Ytgjmidpoebnieaa.LTerm
open Go.RowKit Go.Proofs.Ytgjmidpoebnieaa.PDm Go.Proofs.YtgjmidpoebnieaaW.PrintWords Go.Proofs.YtgjmidpoebnieaaW.PrintLast Go.Proofs.YtgjmidpoebnieaaW.PrintMore
set_option linter.unusedVariables false
set_option linter.unusedSimpArgs false
theorem eqs_ev {g : Nat → T → T → Option Bool} {s : T → T → Bool} : ∀ (xs ys : List T), xs.length = ys.length → (∀ x ∈ xs, ∀ y ∈ ys, Ev (fun m => g m x y) (s x y)) → Ev (fun m => term_Same.eqs (g m) xs ys) ((xs.zip ys).all fun p => s p.1 p.2)
  | [], [], _, _ => Ev.now _
  | [], _ :: _, h, _ => by simp at h
  | _ :: _, [], h, _ => by simp at h
  | x :: xs, y :: ys, h, hg => by
    have h1 := hg x List.mem_cons_self y List.mem_cons_self
    have h2 := eqs_ev xs ys (by simpa using h) (fun a ha b hb => hg a (List.mem_cons_of_mem _ ha) b (List.mem_cons_of_mem _ hb))
    refine LEv.bd _ h1 ?_
    cases hs : s x y with
    | true => refine LEv.pos rfl (LEv.val ?_ h2); simp [hs]
    | false => refine LEv.neg (by decide) (LEv.fin ?_); simp [hs]
/-- the two programs' answers are one -/
theorem same_both (a : T) : ∀ b : T, Fine a → ∃ r, Ev (fun m => term_Same.f m a.f0 a.f1 a.f2 a.f3 a.f4 a.f5 b.f0 b.f1 b.f2 b.f3 b.f4 b.f5) r ∧ Ev (fun m => notaryref06_Same.f m a.f0 a.f1 a.f2 a.f3 a.f4 a.f5 b.f0 b.f1 b.f2 b.f3 b.f4 b.f5) r := by
  induction a using ind with
  | h a ih =>
  intro b hF
  have hlen := hF.len
  have jt : Ev (fun m => notaryref06_Same.j0 m true a.f0 a.f1 a.f2 a.f3 a.f4 a.f5 b.f0 b.f1 b.f2 b.f3 b.f4 b.f5) false := Ev.step (fun m => notaryref06_Same.j0.eq_2 ..) (LEv.pos rfl (Ev.now _))
  by_cases h0 : a.f0 = b.f0
  case neg => exact ⟨false, Ev.step (fun m => term_Same.f.eq_2 ..) (LEv.neg h0 (Ev.now _)), Ev.step (fun m => notaryref06_Same.f.eq_2 ..) (LEv.neg h0 jt)⟩
  by_cases h1 : a.f1 = b.f1
  case neg => exact ⟨false, Ev.step (fun m => term_Same.f.eq_2 ..) (LEv.pos h0 (LEv.neg h1 (Ev.now _))), Ev.step (fun m => notaryref06_Same.f.eq_2 ..) (LEv.pos h0 (LEv.neg h1 jt))⟩
  by_cases h2 : a.f2.toList = b.f2.toList
  case neg => exact ⟨false, Ev.step (fun m => term_Same.f.eq_2 ..) (LEv.pos h0 (LEv.pos h1 (LEv.neg h2 (Ev.now _)))), Ev.step (fun m => notaryref06_Same.f.eq_2 ..) (LEv.pos h0 (LEv.pos h1 (LEv.neg h2 jt)))⟩
  by_cases h3 : a.f3.length = b.f3.length
  case neg =>
    refine ⟨false, Ev.step (fun m => term_Same.f.eq_2 ..) (LEv.pos h0 (LEv.pos h1 (LEv.pos h2 (LEv.neg h3 (Ev.now _))))), Ev.step (fun m => notaryref06_Same.f.eq_2 ..) (LEv.pos h0 (LEv.pos h1 (LEv.pos h2 ?_)))⟩
    rw [show ((a.f3.length : Int) != (b.f3.length : Int)) = true by simp; omega]
    exact jt
  have key : ∀ (rest pre rest' pre' : List T), a.f3 = pre ++ rest → b.f3 = pre' ++ rest' → pre.length = pre'.length →
      ∃ r, Ev (fun m => term_Same.eqs (fun x y => term_Same.f m x.f0 x.f1 x.f2 x.f3 x.f4 x.f5 y.f0 y.f1 y.f2 y.f3 y.f4 y.f5) rest rest') r ∧ Ev (fun m => notaryref06_Same.l0 m (pre.length : Int) a.f0 a.f1 a.f2 a.f3 a.f4 a.f5 b.f0 b.f1 b.f2 b.f3 b.f4 b.f5) r := by
    intro rest
    induction rest with
    | nil =>
      intro pre rest' pre' ha hb hp
      obtain rfl : rest' = [] := List.eq_nil_of_length_eq_zero (by rw [ha, hb] at h3; simp at h3; omega)
      exact ⟨true, Ev.now _, Ev.step (fun m => notaryref06_Same.l0.eq_2 ..) (LEv.neg (by rw [ha]; simp) (Ev.now _))⟩
    | cons x rest ih2 =>
      intro pre rest' pre' ha hb hp
      cases rest' with
      | nil => rw [ha, hb] at h3; simp at h3; omega
      | cons y rest' =>
        obtain ⟨r, r1, r2⟩ := ih x (by rw [ha]; simp) y (hF.sub (by rw [ha]; simp))
        obtain ⟨s, s1, s2⟩ := ih2 (pre ++ [x]) rest' (pre' ++ [y]) (by rw [ha]; simp) (by rw [hb]; simp) (by simp [hp])
        have e1 : rd_T24 a.f3 (pre.length : Int) = x := by rw [ha]; exact rdT _ _ _
        have e2 : rd_T24 b.f3 (pre.length : Int) = y := by rw [hb, hp]; exact rdT _ _ _
        refine ⟨if r = true then s else false, LEv.bd r r1 ?_, Ev.step (fun m => notaryref06_Same.l0.eq_2 ..) (LEv.pos (by rw [ha]; exact lenlt _ _ _) (LEv.pos (by omega) (LEv.pos (by rw [hb, hp]; exact lenlt _ _ _) ?_)))⟩
        · cases r with
          | true => exact LEv.pos rfl s1
          | false => exact LEv.neg (by decide) (Ev.now _)
        · rw [e1, e2, up1 _ (by rw [ha] at hlen; simp at hlen; omega), ← len1 pre x]
          refine LEv.bd r r2 ?_
          cases r with
          | true => exact LEv.pos rfl s2
          | false => exact LEv.neg (by decide) (Ev.now _)
  obtain ⟨r, r1, r2⟩ := key a.f3 [] b.f3 [] rfl rfl rfl
  refine ⟨r, Ev.step (fun m => term_Same.f.eq_2 ..) (LEv.pos h0 (LEv.pos h1 (LEv.pos h2 (LEv.pos h3 r1)))), Ev.step (fun m => notaryref06_Same.f.eq_2 ..) (LEv.pos h0 (LEv.pos h1 (LEv.pos h2 ?_)))⟩
  rw [show ((a.f3.length : Int) != (b.f3.length : Int)) = false by simp; omega]
  exact Ev.step (fun m => notaryref06_Same.j0.eq_2 ..) (LEv.neg (by decide) r2)
theorem eqs_true {g : Nat → T → T → Option Bool} : ∀ (xs ys : List T), xs.length = ys.length → (∀ p ∈ xs.zip ys, Ev (fun m => g m p.1 p.2) true) → Ev (fun m => term_Same.eqs (g m) xs ys) true
  | [], [], _, _ => Ev.now _
  | [], _ :: _, h, _ => by simp at h
  | _ :: _, [], h, _ => by simp at h
  | x :: xs, y :: ys, h, hg => LEv.bd true (hg (x, y) (by simp)) (LEv.pos rfl (eqs_true xs ys (by simpa using h) (fun p hp => hg p (by simp [hp]))))
theorem same_self (a : T) : Ev (fun m => term_Same.f m a.f0 a.f1 a.f2 a.f3 a.f4 a.f5 a.f0 a.f1 a.f2 a.f3 a.f4 a.f5) true := by
  induction a using ind with
  | h a ih =>
  refine Ev.step (fun m => term_Same.f.eq_2 ..) (LEv.pos rfl (LEv.pos rfl (LEv.pos rfl (LEv.pos rfl ?_))))
  refine eqs_true a.f3 a.f3 rfl (fun p hp => ?_)
  have : ∀ l : List T, p ∈ l.zip l → p.1 = p.2 ∧ p.1 ∈ l := by
    intro l
    induction l with
    | nil => simp
    | cons x l ih => intro h; rcases List.mem_cons.1 h with rfl | h; exact ⟨rfl, List.mem_cons_self⟩; exact ⟨(ih h).1, List.mem_cons_of_mem _ (ih h).2⟩
  obtain ⟨e, hm⟩ := this a.f3 hp
  rw [← e]
  exact ih p.1 hm
end Go.Proofs.Ytgjmidpoebnieaa.LTerm
