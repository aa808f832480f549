/- Derivations, plainly: what is small, and that each is the same as itself. -/
import Derived.Test.YtiamcmjdoobaeaaLDw
import Derived.Test.YtiamcmjdoobaeaaPCdx5
import Derived.Test.YtiamcmjdoobaeaaPCdx6
import Derived.Test.YtiamcmjdoobaeaaPCdx14
import Derived.Test.YtiamcmjdoobaeaaPCdx15
import Derived.Test.YtiamcmjdoobaeaaPCdx16
namespace Go.Proofs.Ytiamcmjdoobaeaa.LDv
open Go.RowKit Go.Proofs.Ytiamcmjdoobaeaa.PCd Go.Proofs.YtiamcmjdoobaeaaW.PrintWords Go.Proofs.YtiamcmjdoobaeaaW.PrintLast Go.Proofs.YtiamcmjdoobaeaaW.PrintMore
open LTerm SVarint LVarint LCd
set_option linter.unusedVariables false
set_option linter.unusedSimpArgs false
/-- no list is longer than a machine's, and the numbers are numbers -/
inductive FineD : D → Prop
  | mk (x : D) : x.f1.length ≤ 9223372036854775807 → x.f3.length ≤ 9223372036854775807 → x.f2.f2.length ≤ 9223372036854775807 → x.f2.f3.length ≤ 9223372036854775807 → Fine x.f2.f4 → Num x.f2.f4 → (∀ y ∈ x.f3, FineD y) → FineD x
theorem FineD.l1 {x : D} (h : FineD x) : x.f1.length ≤ 9223372036854775807 := by cases h; assumption
theorem FineD.l3 {x : D} (h : FineD x) : x.f3.length ≤ 9223372036854775807 := by cases h; assumption
theorem FineD.s2 {x : D} (h : FineD x) : x.f2.f2.length ≤ 9223372036854775807 := by cases h; assumption
theorem FineD.s3 {x : D} (h : FineD x) : x.f2.f3.length ≤ 9223372036854775807 := by cases h; assumption
theorem FineD.t {x : D} (h : FineD x) : Fine x.f2.f4 := by cases h; assumption
theorem FineD.n {x : D} (h : FineD x) : Num x.f2.f4 := by cases h; assumption
theorem FineD.sub {x y : D} (h : FineD x) (hy : y ∈ x.f3) : FineD y := by cases h with | mk _ _ _ _ _ _ _ h => exact h y hy
theorem slarge (s : S) (hF : Fine s.f4) (hN : Num s.f4) : ∃ b, Ev (fun m => notaryref34_Large.f m s.f0 s.f1 s.f2 s.f3 s.f4.f0 s.f4.f1 s.f4.f2 s.f4.f3 s.f4.f4 s.f4.f5) b ∧ (b = false → TameS s ∧ s.f2.length ≤ 100 ∧ s.f3.length ≤ 100 ∧ sz s.f4 ≤ 400) := by
  by_cases h2 : (s.f2.length : Int) > 100
  · exact ⟨true, Ev.congr (fun m => notaryref34_Large.f.eq_1 ..) (LEv.pos h2 (Ev.now _)), fun h => by cases h⟩
  by_cases h3 : (s.f3.length : Int) > 100
  · exact ⟨true, Ev.congr (fun m => notaryref34_Large.f.eq_1 ..) (LEv.neg h2 (LEv.pos h3 (Ev.now _))), fun h => by cases h⟩
  obtain ⟨b, hb, hs⟩ := large_ev s.f4 hF
  refine ⟨b, Ev.congr (fun m => notaryref34_Large.f.eq_1 ..) (LEv.neg h2 (LEv.neg h3 (LEv.bd b hb (Ev.now _)))), fun h => ?_⟩
  obtain ⟨t1, t2⟩ := hs h
  refine ⟨⟨by omega, by omega, ?_, hN, by omega⟩, by omega, by omega, t2⟩
  exact tame_up _ 70 330 (small_tame _ t1)
where tame_up : ∀ (x : T) (n c : Nat), Tame n x → Tame (n + c) x := fun x => by
        induction x using LTerm.ind with
        | h x ih => intro n c h; cases h with | mk n _ h1 h2 => rw [show n + 1 + c = (n + c) + 1 by omega]; exact Tame.mk _ x h1 (fun y hy => ih y hy n c (h2 y hy))
theorem dcount_ev (x : D) : ∀ (left : Int) (lv : Nat), FineD x → 0 ≤ left → left ≤ 80 → lv ≤ 20 → ∃ v : Int, Ev (fun m => notaryref35_Count.f m x.f0 x.f1 x.f2.f0 x.f2.f1 x.f2.f2 x.f2.f3 x.f2.f4.f0 x.f2.f4.f1 x.f2.f4.f2 x.f2.f4.f3 x.f2.f4.f4 x.f2.f4.f5 x.f3 left (lv : Int)) v ∧ -1 ≤ v ∧ v ≤ 80 ∧ (0 ≤ v → TameD lv x ∧ v < left ∧ (dz x : Int) ≤ 12000 * (left - v)) := by
  induction x using indD with
  | h x ih =>
  intro left lv hF h0 h1 h2
  have no : Ev (fun m => notaryref35_Count.j0 m left (lv : Int) true x.f0 x.f1 x.f2.f0 x.f2.f1 x.f2.f2 x.f2.f3 x.f2.f4.f0 x.f2.f4.f1 x.f2.f4.f2 x.f2.f4.f3 x.f2.f4.f4 x.f2.f4.f5 x.f3) (-1) := Ev.step (fun m => notaryref35_Count.j0.eq_2 ..) (LEv.pos rfl (Ev.now _))
  by_cases hl : (lv : Int) ≤ 0
  · exact ⟨-1, Ev.step (fun m => notaryref35_Count.f.eq_2 ..) (LEv.pos hl no), by omega, by omega, fun h => absurd h (by omega)⟩
  by_cases hp : (x.f1.length : Int) > 60
  · exact ⟨-1, Ev.step (fun m => notaryref35_Count.f.eq_2 ..) (LEv.neg hl (LEv.pos hp no)), by omega, by omega, fun h => absurd h (by omega)⟩
  obtain ⟨bl, hbl, hs⟩ := slarge x.f2 hF.t hF.n
  cases bl with
  | true => exact ⟨-1, Ev.step (fun m => notaryref35_Count.f.eq_2 ..) (LEv.neg hl (LEv.neg hp (LEv.bd _ hbl no))), by omega, by omega, fun h => absurd h (by omega)⟩
  | false =>
  obtain ⟨n, rfl⟩ : ∃ n, lv = n + 1 := ⟨lv - 1, by omega⟩
  obtain ⟨t0, t1, t2, t3⟩ := hs rfl
  have hlen := hF.l3
  have key : ∀ (rest pre : List D) (b : Int), x.f3 = pre ++ rest → -1 ≤ b → b ≤ 80 → ∃ v : Int, Ev (fun m => notaryref35_Count.l0 m b ((n + 1 : Nat) : Int) (pre.length : Int) x.f0 x.f1 x.f2.f0 x.f2.f1 x.f2.f2 x.f2.f3 x.f2.f4.f0 x.f2.f4.f1 x.f2.f4.f2 x.f2.f4.f3 x.f2.f4.f4 x.f2.f4.f5 x.f3) v ∧ -1 ≤ v ∧ v ≤ 80 ∧ (0 ≤ v → (∀ y ∈ rest, TameD n y) ∧ (rest.length : Int) ≤ b - v ∧ ((rest.map dz).sum : Int) ≤ 12000 * (b - v)) := by
    intro rest
    induction rest with
    | nil =>
      intro pre b he hb1 hb2
      refine ⟨b, Ev.step (fun m => notaryref35_Count.l0.eq_2 ..) (LEv.neg (by rw [he]; simp) (Ev.now _)), hb1, hb2, fun _ => ⟨fun y hy => by simp at hy, by simp, by simp⟩⟩
    | cons y rest ih2 =>
      intro pre b he hb1 hb2
      by_cases hb : b ≥ 0
      · have hy : y ∈ x.f3 := by rw [he]; simp
        obtain ⟨v, hv, v1, v2, v3⟩ := ih y hy b n (hF.sub hy) hb hb2 (by omega)
        obtain ⟨u, hu, u1, u2, u3⟩ := ih2 (pre ++ [y]) v (by rw [he]; simp) v1 v2
        refine ⟨u, Ev.step (fun m => notaryref35_Count.l0.eq_2 ..) (LEv.pos (by rw [he]; exact dlt _ _ _) (LEv.pos hb (LEv.pos (by omega) ?_))), u1, u2, fun hh => ?_⟩
        · have e1 : rd_T42 x.f3 (pre.length : Int) = y := by rw [he]; exact rdD _ _ _
          rw [e1, LEv.w64 _ (by omega) (by omega), up1 _ (by rw [he] at hlen; simp at hlen; omega), ← len1 pre y, show (((n + 1 : Nat) : Int) - 1) = (n : Int) by omega]
          exact LEv.bd v hv hu
        · obtain ⟨s1, s2, s3⟩ := u3 hh
          have hv0 : 0 ≤ v := by omega
          obtain ⟨w1, w2, w3⟩ := v3 hv0
          refine ⟨fun z hz => ?_, by simp only [List.length_cons]; omega, by simp only [List.map_cons, List.sum_cons]; omega⟩
          rcases List.mem_cons.1 hz with rfl | hz
          · exact w1
          · exact s1 z hz
      · refine ⟨b, Ev.step (fun m => notaryref35_Count.l0.eq_2 ..) (LEv.pos (by rw [he]; exact dlt _ _ _) (LEv.neg hb (Ev.now _))), hb1, hb2, fun h => absurd h hb⟩
  obtain ⟨v, hv, v1, v2, v3⟩ := key x.f3 [] (left - 1) rfl (by omega) (by omega)
  refine ⟨v, Ev.step (fun m => notaryref35_Count.f.eq_2 ..) (LEv.neg hl (LEv.neg hp (LEv.bd _ hbl (Ev.step (fun m => notaryref35_Count.j0.eq_2 ..) (LEv.neg (by decide) ?_))))), v1, v2, fun h => ?_⟩
  · rw [LEv.w64 _ (by omega) (by omega)]
    exact hv
  · obtain ⟨s1, s2, s3⟩ := v3 h
    have hz := dz_eq x
    refine ⟨TameD.mk n x (by omega) (by omega) t0 s1, by omega, ?_⟩
    unfold sw at hz
    omega
theorem dlarge (x : D) (hF : FineD x) : ∃ b, Ev (fun m => notaryref35_Large.f m x.f0 x.f1 x.f2.f0 x.f2.f1 x.f2.f2 x.f2.f3 x.f2.f4.f0 x.f2.f4.f1 x.f2.f4.f2 x.f2.f4.f3 x.f2.f4.f4 x.f2.f4.f5 x.f3) b ∧ (b = false → TameD 20 x ∧ dz x ≤ 1000000) := by
  obtain ⟨v, hv, v1, v2, v3⟩ := dcount_ev x 80 20 hF (by omega) (by omega) (by omega)
  refine ⟨decide (v < 0), Ev.congr (fun m => notaryref35_Large.f.eq_1 ..) (LEv.bd v hv (Ev.now _)), fun h => ?_⟩
  obtain ⟨s1, s2, s3⟩ := v3 (by simpa using h)
  exact ⟨s1, by omega⟩
/-! ### Each is the same as itself -/
theorem way_self (l : List Int) (hl : l.length ≤ 9223372036854775807) : Ev (fun m => notaryref06_Way.f m l l) true := by
  have key : ∀ (rest pre : List Int), l = pre ++ rest → Ev (fun m => notaryref06_Way.l0 m l l (pre.length : Int)) true := by
    intro rest
    induction rest with
    | nil => exact fun pre ha => Ev.step (fun m => notaryref06_Way.l0.eq_2 ..) (LEv.neg (by rw [ha]; simp) (Ev.now _))
    | cons x rest ih =>
      intro pre ha
      have e3 : (pre.length : Int) < (l.length : Int) := by rw [ha]; simp; omega
      refine Ev.step (fun m => notaryref06_Way.l0.eq_2 ..) (LEv.pos e3 (LEv.pos (by omega) (LEv.pos e3 (LEv.pos rfl ?_))))
      rw [show wrap64 ((pre.length : Int) + 1) = ((pre ++ [x]).length : Int) by rw [up1 _ (by rw [ha] at hl; simp at hl; omega)]; simp]
      exact ih (pre ++ [x]) (by rw [ha]; simp)
  exact Ev.congr (fun m => notaryref06_Way.f.eq_1 ..) (LEv.pos rfl (key l [] rfl))
theorem tsame_self (a : T) : Fine a → Ev (fun m => notaryref06_Same.f m a.f0 a.f1 a.f2 a.f3 a.f4 a.f5 a.f0 a.f1 a.f2 a.f3 a.f4 a.f5) true := by
  induction a using LTerm.ind with
  | h a ih =>
  intro hF
  have hlen := hF.len
  have key : ∀ (rest pre : List T), a.f3 = pre ++ rest → Ev (fun m => notaryref06_Same.l0 m (pre.length : Int) a.f0 a.f1 a.f2 a.f3 a.f4 a.f5 a.f0 a.f1 a.f2 a.f3 a.f4 a.f5) true := by
    intro rest
    induction rest with
    | nil => exact fun pre ha => Ev.step (fun m => notaryref06_Same.l0.eq_2 ..) (LEv.neg (by rw [ha]; simp) (Ev.now _))
    | cons x rest ih2 =>
      intro pre ha
      have e1 : rd_T25 a.f3 (pre.length : Int) = x := by rw [ha]; exact rdT _ _ _
      have e3 : (pre.length : Int) < (a.f3.length : Int) := by rw [ha]; exact lenlt _ _ _
      refine Ev.step (fun m => notaryref06_Same.l0.eq_2 ..) (LEv.pos e3 (LEv.pos (by omega) (LEv.pos e3 ?_)))
      rw [e1, up1 _ (by rw [ha] at hlen; simp at hlen; omega), ← len1 pre x]
      exact LEv.bd true (ih x (by rw [ha]; simp) (hF.sub (by rw [ha]; simp))) (LEv.pos rfl (ih2 (pre ++ [x]) (by rw [ha]; simp)))
  refine Ev.step (fun m => notaryref06_Same.f.eq_2 ..) (LEv.pos rfl (LEv.pos rfl (LEv.pos rfl ?_)))
  rw [show ((a.f3.length : Int) != (a.f3.length : Int)) = false by simp]
  exact Ev.step (fun m => notaryref06_Same.j0.eq_2 ..) (LEv.neg (by decide) (key a.f3 [] rfl))
theorem ssame_self (s : S) (h2 : s.f2.length ≤ 9223372036854775807) (h3 : s.f3.length ≤ 9223372036854775807) (ht : Fine s.f4) : Ev (fun m => notaryref34_Same.f m s.f0 s.f1 s.f2 s.f3 s.f4.f0 s.f4.f1 s.f4.f2 s.f4.f3 s.f4.f4 s.f4.f5 s.f0 s.f1 s.f2 s.f3 s.f4.f0 s.f4.f1 s.f4.f2 s.f4.f3 s.f4.f4 s.f4.f5) true :=
  Ev.congr (fun m => notaryref34_Same.f.eq_1 ..) (LEv.pos rfl (LEv.pos (by simp) (LEv.bd _ (way_self _ h2) (LEv.pos rfl (LEv.bd _ (way_self _ h3) (LEv.pos rfl (LEv.bd _ (tsame_self _ ht) (Ev.now _))))))))
theorem dsame_self (a : D) : FineD a → Ev (fun m => notaryref35_Same.f m a.f0 a.f1 a.f2.f0 a.f2.f1 a.f2.f2 a.f2.f3 a.f2.f4.f0 a.f2.f4.f1 a.f2.f4.f2 a.f2.f4.f3 a.f2.f4.f4 a.f2.f4.f5 a.f3 a.f0 a.f1 a.f2.f0 a.f2.f1 a.f2.f2 a.f2.f3 a.f2.f4.f0 a.f2.f4.f1 a.f2.f4.f2 a.f2.f4.f3 a.f2.f4.f4 a.f2.f4.f5 a.f3) true := by
  induction a using indD with
  | h a ih =>
  intro hF
  have hlen := hF.l3
  have key : ∀ (rest pre : List D), a.f3 = pre ++ rest → Ev (fun m => notaryref35_Same.l0 m (pre.length : Int) a.f0 a.f1 a.f2.f0 a.f2.f1 a.f2.f2 a.f2.f3 a.f2.f4.f0 a.f2.f4.f1 a.f2.f4.f2 a.f2.f4.f3 a.f2.f4.f4 a.f2.f4.f5 a.f3 a.f0 a.f1 a.f2.f0 a.f2.f1 a.f2.f2 a.f2.f3 a.f2.f4.f0 a.f2.f4.f1 a.f2.f4.f2 a.f2.f4.f3 a.f2.f4.f4 a.f2.f4.f5 a.f3) true := by
    intro rest
    induction rest with
    | nil => exact fun pre ha => Ev.step (fun m => notaryref35_Same.l0.eq_2 ..) (LEv.neg (by rw [ha]; simp) (Ev.now _))
    | cons x rest ih2 =>
      intro pre ha
      have e1 : rd_T42 a.f3 (pre.length : Int) = x := by rw [ha]; exact rdD _ _ _
      have e3 : (pre.length : Int) < (a.f3.length : Int) := by rw [ha]; exact dlt _ _ _
      refine Ev.step (fun m => notaryref35_Same.l0.eq_2 ..) (LEv.pos e3 (LEv.pos (by omega) (LEv.pos e3 ?_)))
      rw [e1, up1 _ (by rw [ha] at hlen; simp at hlen; omega), ← len1 pre x]
      exact LEv.bd true (ih x (by rw [ha]; simp) (hF.sub (by rw [ha]; simp))) (LEv.pos rfl (ih2 (pre ++ [x]) (by rw [ha]; simp)))
  refine Ev.step (fun m => notaryref35_Same.f.eq_2 ..) (LEv.pos rfl (LEv.bd _ (way_self _ hF.l1) (LEv.pos rfl (LEv.bd _ (ssame_self a.f2 hF.s2 hF.s3 hF.t) (LEv.pos rfl ?_)))))
  rw [show ((a.f3.length : Int) != (a.f3.length : Int)) = false by simp]
  exact Ev.step (fun m => notaryref35_Same.j0.eq_2 ..) (LEv.neg (by decide) (key a.f3 [] rfl))
end Go.Proofs.Ytiamcmjdoobaeaa.LDv
