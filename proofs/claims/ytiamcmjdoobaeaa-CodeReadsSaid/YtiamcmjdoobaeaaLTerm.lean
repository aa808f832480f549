/- Terms, plainly: what is small, and what both programs answer of being alike. -/
import Derived.Test.YtiamcmjdoobaeaaLEv
import Derived.Test.YtiamcmjdoobaeaaPCex10
namespace Go.Proofs.Ytiamcmjdoobaeaa.LTerm
open Go.RowKit Go.Proofs.Ytiamcmjdoobaeaa.PCe Go.Proofs.YtiamcmjdoobaeaaW.PrintWords Go.Proofs.YtiamcmjdoobaeaaW.PrintLast Go.Proofs.YtiamcmjdoobaeaaW.PrintMore
set_option linter.unusedVariables false
set_option linter.unusedSimpArgs false
abbrev T := S25
theorem lt_of {x y : T} (h : y ∈ x.f3) : SizeOf.sizeOf y < SizeOf.sizeOf x := by
  have := List.sizeOf_lt_of_mem h
  cases x
  simp at this ⊢
  omega
theorem ind {P : T → Prop} (h : ∀ x : T, (∀ y ∈ x.f3, P y) → P x) (x : T) : P x := by
  suffices h2 : ∀ n, ∀ x : T, SizeOf.sizeOf x < n → P x from h2 _ x (Nat.lt_succ_self _)
  intro n
  induction n with
  | zero => intro x hx; omega
  | succ n ih => exact fun x hx => h x (fun y hy => ih y (by have := lt_of hy; omega))
inductive Fine : T → Prop
  | mk (x : T) : x.f3.length ≤ 9223372036854775807 → (∀ y ∈ x.f3, Fine y) → Fine x
theorem Fine.len {x : T} (h : Fine x) : x.f3.length ≤ 9223372036854775807 := by cases h; assumption
theorem Fine.sub {x y : T} (h : Fine x) (hy : y ∈ x.f3) : Fine y := by cases h with | mk _ _ h => exact h y hy
/-- no more than n levels, and no more than 400 parts of any part -/
inductive Small : Nat → T → Prop
  | mk (n : Nat) (x : T) : x.f3.length ≤ 400 → (∀ y ∈ x.f3, Small n y) → Small (n + 1) x
theorem Small.len {n : Nat} {x : T} (h : Small n x) : x.f3.length ≤ 400 := by cases h; assumption
theorem Small.sub {n : Nat} {x y : T} (h : Small (n + 1) x) (hy : y ∈ x.f3) : Small n y := by cases h with | mk _ _ _ h => exact h y hy
theorem rdT (pre : List T) (r : T) (rest : List T) : rd_T25 (pre ++ r :: rest) (pre.length : Int) = r := by
  unfold rd_T25
  simp [List.getD_eq_getElem?_getD]
theorem up1 (n : Nat) (h : n < 9223372036854775807) : wrap64 ((n : Int) + 1) = ((n + 1 : Nat) : Int) := by rw [LEv.w64 _ (by omega) (by omega)]; omega
theorem len1 {α : Type} (pre : List α) (r : α) : ((pre ++ [r]).length : Int) = ((pre.length + 1 : Nat) : Int) := by simp
theorem lenlt {α : Type} (pre : List α) (r : α) (rest : List α) : (pre.length : Int) < ((pre ++ r :: rest).length : Int) := by simp; omega
def sz (t : T) : Nat := 1 + (t.f3.attach.map fun y => sz y.1).sum
termination_by SizeOf.sizeOf t
decreasing_by exact lt_of y.2
theorem sz_eq (t : T) : sz t = 1 + (t.f3.map sz).sum := by rw [sz, List.attach_map_val (f := sz)]
end Go.Proofs.Ytiamcmjdoobaeaa.LTerm
