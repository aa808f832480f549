/- Derivations, plainly: each is the same as itself. -/
import Derived.Test.YtiamcmjdoobaeaaLDw
import Derived.Test.YtiamcmjdoobaeaaPCex9
import Derived.Test.YtiamcmjdoobaeaaPCex10
import Derived.Test.YtiamcmjdoobaeaaPCex11
namespace Go.Proofs.Ytiamcmjdoobaeaa.LDv
open Go.RowKit Go.Proofs.Ytiamcmjdoobaeaa.PCe Go.Proofs.YtiamcmjdoobaeaaW.PrintWords Go.Proofs.YtiamcmjdoobaeaaW.PrintLast Go.Proofs.YtiamcmjdoobaeaaW.PrintMore
open LTerm SVarint LVarint LCd
set_option linter.unusedVariables false
set_option linter.unusedSimpArgs false
/-- no list is longer than a machine's, and the numbers are numbers -/
inductive FineD : D → Prop
  | mk (x : D) : x.f1.length ≤ 9223372036854775807 → x.f3.length ≤ 9223372036854775807 → x.f2.f2.length ≤ 9223372036854775807 → x.f2.f3.length ≤ 9223372036854775807 → Fine x.f2.f4 → Num x.f2.f4 → (∀ y ∈ x.f3, FineD y) → FineD x
theorem FineD.l1 {x : D} (h : FineD x) : x.f1.length ≤ 9223372036854775807 := by cases h; assumption
theorem FineD.l3 {x : D} (h : FineD x) : x.f3.length ≤ 9223372036854775807 := by cases h; assumption
theorem FineD.s2 {x : D} (h : FineD x) : x.f2.f2.length ≤ 9223372036854775807 := by cases h; assumption
theorem FineD.s3 {x : D} (h : FineD x) : x.f2.f3.length ≤ 9223372036854775807 := by cases h; assumption
theorem FineD.t {x : D} (h : FineD x) : Fine x.f2.f4 := by cases h; assumption
theorem FineD.n {x : D} (h : FineD x) : Num x.f2.f4 := by cases h; assumption
theorem FineD.sub {x y : D} (h : FineD x) (hy : y ∈ x.f3) : FineD y := by cases h with | mk _ _ _ _ _ _ _ h => exact h y hy
/-! ### Each is the same as itself -/
theorem way_self (l : List Int) (hl : l.length ≤ 9223372036854775807) : Ev (fun m => notaryref06_Way.f m l l) true := by
  have key : ∀ (rest pre : List Int), l = pre ++ rest → Ev (fun m => notaryref06_Way.l0 m l l (pre.length : Int)) true := by
    intro rest
    induction rest with
    | nil => exact fun pre ha => Ev.step (fun m => notaryref06_Way.l0.eq_2 ..) (LEv.neg (by rw [ha]; simp) (Ev.now _))
    | cons x rest ih =>
      intro pre ha
      have e3 : (pre.length : Int) < (l.length : Int) := by rw [ha]; simp; omega
      refine Ev.step (fun m => notaryref06_Way.l0.eq_2 ..) (LEv.pos e3 (LEv.pos (by omega) (LEv.pos e3 (LEv.pos rfl ?_))))
      rw [show wrap64 ((pre.length : Int) + 1) = ((pre ++ [x]).length : Int) by rw [up1 _ (by rw [ha] at hl; simp at hl; omega)]; simp]
      exact ih (pre ++ [x]) (by rw [ha]; simp)
  exact Ev.congr (fun m => notaryref06_Way.f.eq_1 ..) (LEv.pos rfl (key l [] rfl))
theorem tsame_self (a : T) : Fine a → Ev (fun m => notaryref06_Same.f m a.f0 a.f1 a.f2 a.f3 a.f4 a.f5 a.f0 a.f1 a.f2 a.f3 a.f4 a.f5) true := by
  induction a using LTerm.ind with
  | h a ih =>
  intro hF
  have hlen := hF.len
  have key : ∀ (rest pre : List T), a.f3 = pre ++ rest → Ev (fun m => notaryref06_Same.l0 m (pre.length : Int) a.f0 a.f1 a.f2 a.f3 a.f4 a.f5 a.f0 a.f1 a.f2 a.f3 a.f4 a.f5) true := by
    intro rest
    induction rest with
    | nil => exact fun pre ha => Ev.step (fun m => notaryref06_Same.l0.eq_2 ..) (LEv.neg (by rw [ha]; simp) (Ev.now _))
    | cons x rest ih2 =>
      intro pre ha
      have e1 : rd_T25 a.f3 (pre.length : Int) = x := by rw [ha]; exact rdT _ _ _
      have e3 : (pre.length : Int) < (a.f3.length : Int) := by rw [ha]; exact lenlt _ _ _
      refine Ev.step (fun m => notaryref06_Same.l0.eq_2 ..) (LEv.pos e3 (LEv.pos (by omega) (LEv.pos e3 ?_)))
      rw [e1, up1 _ (by rw [ha] at hlen; simp at hlen; omega), ← len1 pre x]
      exact LEv.bd true (ih x (by rw [ha]; simp) (hF.sub (by rw [ha]; simp))) (LEv.pos rfl (ih2 (pre ++ [x]) (by rw [ha]; simp)))
  refine Ev.step (fun m => notaryref06_Same.f.eq_2 ..) (LEv.pos rfl (LEv.pos rfl (LEv.pos rfl ?_)))
  rw [show ((a.f3.length : Int) != (a.f3.length : Int)) = false by simp]
  exact Ev.step (fun m => notaryref06_Same.j0.eq_2 ..) (LEv.neg (by decide) (key a.f3 [] rfl))
theorem ssame_self (s : S) (h2 : s.f2.length ≤ 9223372036854775807) (h3 : s.f3.length ≤ 9223372036854775807) (ht : Fine s.f4) : Ev (fun m => notaryref34_Same.f m s.f0 s.f1 s.f2 s.f3 s.f4.f0 s.f4.f1 s.f4.f2 s.f4.f3 s.f4.f4 s.f4.f5 s.f0 s.f1 s.f2 s.f3 s.f4.f0 s.f4.f1 s.f4.f2 s.f4.f3 s.f4.f4 s.f4.f5) true :=
  Ev.congr (fun m => notaryref34_Same.f.eq_1 ..) (LEv.pos rfl (LEv.pos (by simp) (LEv.bd _ (way_self _ h2) (LEv.pos rfl (LEv.bd _ (way_self _ h3) (LEv.pos rfl (LEv.bd _ (tsame_self _ ht) (Ev.now _))))))))
theorem dsame_self (a : D) : FineD a → Ev (fun m => notaryref35_Same.f m a.f0 a.f1 a.f2.f0 a.f2.f1 a.f2.f2 a.f2.f3 a.f2.f4.f0 a.f2.f4.f1 a.f2.f4.f2 a.f2.f4.f3 a.f2.f4.f4 a.f2.f4.f5 a.f3 a.f0 a.f1 a.f2.f0 a.f2.f1 a.f2.f2 a.f2.f3 a.f2.f4.f0 a.f2.f4.f1 a.f2.f4.f2 a.f2.f4.f3 a.f2.f4.f4 a.f2.f4.f5 a.f3) true := by
  induction a using indD with
  | h a ih =>
  intro hF
  have hlen := hF.l3
  have key : ∀ (rest pre : List D), a.f3 = pre ++ rest → Ev (fun m => notaryref35_Same.l0 m (pre.length : Int) a.f0 a.f1 a.f2.f0 a.f2.f1 a.f2.f2 a.f2.f3 a.f2.f4.f0 a.f2.f4.f1 a.f2.f4.f2 a.f2.f4.f3 a.f2.f4.f4 a.f2.f4.f5 a.f3 a.f0 a.f1 a.f2.f0 a.f2.f1 a.f2.f2 a.f2.f3 a.f2.f4.f0 a.f2.f4.f1 a.f2.f4.f2 a.f2.f4.f3 a.f2.f4.f4 a.f2.f4.f5 a.f3) true := by
    intro rest
    induction rest with
    | nil => exact fun pre ha => Ev.step (fun m => notaryref35_Same.l0.eq_2 ..) (LEv.neg (by rw [ha]; simp) (Ev.now _))
    | cons x rest ih2 =>
      intro pre ha
      have e1 : rd_T42 a.f3 (pre.length : Int) = x := by rw [ha]; exact rdD _ _ _
      have e3 : (pre.length : Int) < (a.f3.length : Int) := by rw [ha]; exact dlt _ _ _
      refine Ev.step (fun m => notaryref35_Same.l0.eq_2 ..) (LEv.pos e3 (LEv.pos (by omega) (LEv.pos e3 ?_)))
      rw [e1, up1 _ (by rw [ha] at hlen; simp at hlen; omega), ← len1 pre x]
      exact LEv.bd true (ih x (by rw [ha]; simp) (hF.sub (by rw [ha]; simp))) (LEv.pos rfl (ih2 (pre ++ [x]) (by rw [ha]; simp)))
  refine Ev.step (fun m => notaryref35_Same.f.eq_2 ..) (LEv.pos rfl (LEv.bd _ (way_self _ hF.l1) (LEv.pos rfl (LEv.bd _ (ssame_self a.f2 hF.s2 hF.s3 hF.t) (LEv.pos rfl ?_)))))
  rw [show ((a.f3.length : Int) != (a.f3.length : Int)) = false by simp]
  exact Ev.step (fun m => notaryref35_Same.j0.eq_2 ..) (LEv.neg (by decide) (key a.f3 [] rfl))
end Go.Proofs.Ytiamcmjdoobaeaa.LDv
