/- Terms, plainly: what is small, and what both programs answer of being alike. -/
import Derived.Test.YtiamcmjdoobaeaaLEv
import Derived.Test.YtiamcmjdoobaeaaPCdx5
import Derived.Test.YtiamcmjdoobaeaaPCdx15
namespace Go.Proofs.Ytiamcmjdoobaeaa.LTerm
open Go.RowKit Go.Proofs.Ytiamcmjdoobaeaa.PCd Go.Proofs.YtiamcmjdoobaeaaW.PrintWords Go.Proofs.YtiamcmjdoobaeaaW.PrintLast Go.Proofs.YtiamcmjdoobaeaaW.PrintMore
set_option linter.unusedVariables false
set_option linter.unusedSimpArgs false
abbrev T := S25
theorem lt_of {x y : T} (h : y ∈ x.f3) : SizeOf.sizeOf y < SizeOf.sizeOf x := by
  have := List.sizeOf_lt_of_mem h
  cases x
  simp at this ⊢
  omega
theorem ind {P : T → Prop} (h : ∀ x : T, (∀ y ∈ x.f3, P y) → P x) (x : T) : P x := by
  suffices h2 : ∀ n, ∀ x : T, SizeOf.sizeOf x < n → P x from h2 _ x (Nat.lt_succ_self _)
  intro n
  induction n with
  | zero => intro x hx; omega
  | succ n ih => exact fun x hx => h x (fun y hy => ih y (by have := lt_of hy; omega))
inductive Fine : T → Prop
  | mk (x : T) : x.f3.length ≤ 9223372036854775807 → (∀ y ∈ x.f3, Fine y) → Fine x
theorem Fine.len {x : T} (h : Fine x) : x.f3.length ≤ 9223372036854775807 := by cases h; assumption
theorem Fine.sub {x y : T} (h : Fine x) (hy : y ∈ x.f3) : Fine y := by cases h with | mk _ _ h => exact h y hy
/-- no more than n levels, and no more than 400 parts of any part -/
inductive Small : Nat → T → Prop
  | mk (n : Nat) (x : T) : x.f3.length ≤ 400 → (∀ y ∈ x.f3, Small n y) → Small (n + 1) x
theorem Small.len {n : Nat} {x : T} (h : Small n x) : x.f3.length ≤ 400 := by cases h; assumption
theorem Small.sub {n : Nat} {x y : T} (h : Small (n + 1) x) (hy : y ∈ x.f3) : Small n y := by cases h with | mk _ _ _ h => exact h y hy
theorem rdT (pre : List T) (r : T) (rest : List T) : rd_T25 (pre ++ r :: rest) (pre.length : Int) = r := by
  unfold rd_T25
  simp [List.getD_eq_getElem?_getD]
theorem up1 (n : Nat) (h : n < 9223372036854775807) : wrap64 ((n : Int) + 1) = ((n + 1 : Nat) : Int) := by rw [LEv.w64 _ (by omega) (by omega)]; omega
theorem len1 {α : Type} (pre : List α) (r : α) : ((pre ++ [r]).length : Int) = ((pre.length + 1 : Nat) : Int) := by simp
theorem lenlt {α : Type} (pre : List α) (r : α) (rest : List α) : (pre.length : Int) < ((pre ++ r :: rest).length : Int) := by simp; omega
def sz (t : T) : Nat := 1 + (t.f3.attach.map fun y => sz y.1).sum
termination_by SizeOf.sizeOf t
decreasing_by exact lt_of y.2
theorem sz_eq (t : T) : sz t = 1 + (t.f3.map sz).sum := by rw [sz, List.attach_map_val (f := sz)]
theorem count_ev (x : T) : ∀ (left : Int) (lv : Nat), Fine x → 0 ≤ left → left ≤ 400 → lv ≤ 70 → ∃ v : Int, Ev (fun m => notaryref06_Count.f m x.f0 x.f1 x.f2 x.f3 x.f4 x.f5 left (lv : Int)) v ∧ -1 ≤ v ∧ v ≤ 400 ∧ (0 ≤ v → Small lv x ∧ v = left - (sz x : Int)) := by
  induction x using ind with
  | h x ih =>
  intro left lv hF h0 h1 h2
  by_cases hl : (lv : Int) ≤ 0
  · exact ⟨-1, Ev.step (fun m => notaryref06_Count.f.eq_2 ..) (LEv.pos hl (Ev.now _)), by omega, by omega, fun h => absurd h (by omega)⟩
  obtain ⟨n, rfl⟩ : ∃ n, lv = n + 1 := ⟨lv - 1, by omega⟩
  have hlen := hF.len
  have key : ∀ (rest pre : List T) (b : Int), x.f3 = pre ++ rest → -1 ≤ b → b ≤ 400 → ∃ v : Int, Ev (fun m => notaryref06_Count.l0 m b ((n + 1 : Nat) : Int) (pre.length : Int) x.f0 x.f1 x.f2 x.f3 x.f4 x.f5) v ∧ -1 ≤ v ∧ v ≤ 400 ∧ (0 ≤ v → (∀ y ∈ rest, Small n y) ∧ v = b - ((rest.map sz).sum : Nat)) := by
    intro rest
    induction rest with
    | nil =>
      intro pre b he hb1 hb2
      refine ⟨b, Ev.step (fun m => notaryref06_Count.l0.eq_2 ..) (LEv.neg (by rw [he]; simp) (Ev.now _)), hb1, hb2, fun _ => ⟨fun y hy => by simp at hy, by simp⟩⟩
    | cons y rest ih2 =>
      intro pre b he hb1 hb2
      by_cases hb : b ≥ 0
      · have hy : y ∈ x.f3 := by rw [he]; simp
        obtain ⟨v, hv, v1, v2, v3⟩ := ih y hy b n (hF.sub hy) hb hb2 (by omega)
        obtain ⟨u, hu, u1, u2, u3⟩ := ih2 (pre ++ [y]) v (by rw [he]; simp) v1 v2
        refine ⟨u, Ev.step (fun m => notaryref06_Count.l0.eq_2 ..) (LEv.pos (by rw [he]; exact lenlt _ _ _) (LEv.pos hb (LEv.pos (by omega) ?_))), u1, u2, fun hh => ?_⟩
        · have e1 : rd_T25 x.f3 (pre.length : Int) = y := by rw [he]; exact rdT _ _ _
          rw [e1, LEv.w64 _ (by omega) (by omega), up1 _ (by rw [he] at hlen; simp at hlen; omega), ← len1 pre y, show (((n + 1 : Nat) : Int) - 1) = (n : Int) by omega]
          exact LEv.bd v hv hu
        · obtain ⟨s1, s2⟩ := u3 hh
          have hv0 : 0 ≤ v := by omega
          obtain ⟨t1, t2⟩ := v3 hv0
          refine ⟨fun z hz => ?_, by simp only [List.map_cons, List.sum_cons]; omega⟩
          rcases List.mem_cons.1 hz with rfl | hz
          · exact t1
          · exact s1 z hz
      · exact ⟨b, Ev.step (fun m => notaryref06_Count.l0.eq_2 ..) (LEv.pos (by rw [he]; exact lenlt _ _ _) (LEv.neg hb (Ev.now _))), hb1, hb2, fun h => absurd h hb⟩
  obtain ⟨v, hv, v1, v2, v3⟩ := key x.f3 [] (left - 1) rfl (by omega) (by omega)
  refine ⟨v, Ev.step (fun m => notaryref06_Count.f.eq_2 ..) (LEv.neg hl ?_), v1, v2, fun h => ?_⟩
  · rw [LEv.w64 _ (by omega) (by omega)]
    exact hv
  · obtain ⟨s1, s2⟩ := v3 h
    have hz := sz_eq x
    have hs : ∀ l : List T, l.length ≤ (l.map sz).sum := by
      intro l
      induction l with
      | nil => simp
      | cons a l ih => have := sz_eq a; simp; omega
    have := hs x.f3
    exact ⟨Small.mk n x (by omega) s1, by omega⟩
theorem named_ev (x : T) : Fine x → ∃ b, Ev (fun m => notaryref06_Named.f m x.f0 x.f1 x.f2 x.f3 x.f4 x.f5) b := by
  induction x using ind with
  | h x ih =>
  intro hF
  have hlen := hF.len
  by_cases hs : (x.f2.size : Int) > 40
  · exact ⟨true, Ev.step (fun m => notaryref06_Named.f.eq_2 ..) (LEv.pos hs (Ev.now _))⟩
  have key : ∀ (rest pre : List T), x.f3 = pre ++ rest → ∃ b, Ev (fun m => notaryref06_Named.l0 m (pre.length : Int) x.f0 x.f1 x.f2 x.f3 x.f4 x.f5) b := by
    intro rest
    induction rest with
    | nil => exact fun pre he => ⟨false, Ev.step (fun m => notaryref06_Named.l0.eq_2 ..) (LEv.neg (by rw [he]; simp) (Ev.now _))⟩
    | cons y rest ih2 =>
      intro pre he
      have hy : y ∈ x.f3 := by rw [he]; simp
      obtain ⟨b, hb⟩ := ih y hy (hF.sub hy)
      obtain ⟨c, hc⟩ := ih2 (pre ++ [y]) (by rw [he]; simp)
      have e1 : rd_T25 x.f3 (pre.length : Int) = y := by rw [he]; exact rdT _ _ _
      refine ⟨if b = true then true else c, Ev.step (fun m => notaryref06_Named.l0.eq_2 ..) (LEv.pos (by rw [he]; exact lenlt _ _ _) (LEv.pos (by omega) ?_))⟩
      rw [e1, up1 _ (by rw [he] at hlen; simp at hlen; omega), ← len1 pre y]
      refine LEv.bd b hb ?_
      cases b with
      | true => exact LEv.pos rfl (Ev.now _)
      | false => exact LEv.neg (by decide) hc
  obtain ⟨b, hb⟩ := key x.f3 [] rfl
  exact ⟨b, Ev.step (fun m => notaryref06_Named.f.eq_2 ..) (LEv.neg hs hb)⟩
theorem large_ev (x : T) (hF : Fine x) : ∃ b, Ev (fun m => notaryref06_Large.f m x.f0 x.f1 x.f2 x.f3 x.f4 x.f5) b ∧ (b = false → Small 70 x ∧ sz x ≤ 400) := by
  obtain ⟨v, hv, v1, v2, v3⟩ := count_ev x 400 70 hF (by omega) (by omega) (by omega)
  by_cases h : v < 0
  · exact ⟨true, Ev.congr (fun m => notaryref06_Large.f.eq_1 ..) (LEv.bd v hv (LEv.pos h (Ev.now _))), fun h => by cases h⟩
  · obtain ⟨b, hb⟩ := named_ev x hF
    refine ⟨b, Ev.congr (fun m => notaryref06_Large.f.eq_1 ..) (LEv.bd v hv (LEv.neg h (LEv.bd b hb (Ev.now _)))), fun _ => ?_⟩
    obtain ⟨s1, s2⟩ := v3 (by omega)
    exact ⟨s1, by omega⟩
end Go.Proofs.Ytiamcmjdoobaeaa.LTerm
