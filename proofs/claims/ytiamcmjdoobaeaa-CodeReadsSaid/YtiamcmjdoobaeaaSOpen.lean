/- What reads as data at a type is of a kind: for arguments that are structs, slices of structs and trees. -/
import Derived.Test.YtiamcmjdoobaeaaWMore
import Derived.ChangeArms
import Derived.ChangeSlices
import Derived.DataReads
import Derived.OpenShut
namespace Go.Proofs.Ytiamcmjdoobaeaa.SOpen
open Go.RowKit Go.ChangeShapes Go.Proofs.YtiamcmjdoobaeaaW.PrintWords Go.Proofs.YtiamcmjdoobaeaaW.PrintLast Go.Proofs.YtiamcmjdoobaeaaW.PrintMore
set_option linter.unusedVariables false
/-- What reads with so much fuel as data of a type is of a kind, and of a form. -/
abbrev OpAt (P : Program) (m : Nat) (t : TypeId) {α : Type} (d : Kd α) (wf : α → Prop) : Prop :=
  ∀ (H : Type) (enc : TypeId × Value → H) (w : World) (cs : List Value) (x : DataW H × List MemPlace), DataW.trod enc P w 0 (fun _ => true) true m t cs = some x → ∃ a, d.K w a cs ∧ wf a
abbrev Op (P : Program) (t : TypeId) {α : Type} (d : Kd α) (wf : α → Prop) : Prop := ∀ m, OpAt P m t d wf
theorem list_of {α : Type} {Q : Nat → α → Prop} {len : Nat} (each : ∀ i, i < len → ∃ y : α, Q i y) : ∃ l : List α, l.length = len ∧ ∀ i y, l[i]? = some y → Q i y := by
  induction len with
  | zero => exact ⟨[], rfl, fun i y hy => by simp at hy⟩
  | succ len ih =>
    obtain ⟨l, hl, hh⟩ := ih (fun i hi => each i (by omega))
    obtain ⟨y, hy⟩ := each len (by omega)
    refine ⟨l ++ [y], by simp [hl], fun i z hz => ?_⟩
    rcases Nat.lt_or_ge i l.length with hi | hi
    · rw [List.getElem?_append_left hi] at hz
      exact hh i z hz
    · have hi2 := (List.getElem?_eq_some_iff.1 hz).1
      rw [List.length_append, List.length_singleton] at hi2
      have : i = len := by omega
      subst this
      rw [List.getElem?_append_right hi, hl, Nat.sub_self] at hz
      obtain rfl : y = z := by simpa using hz
      exact hy
section
variable {P : Program} {t e : TypeId}
theorem op_int {k : IntKind} (ht : P.underlying t = some (.int k)) : Op P t (Kd.int k) (fun n => (Lit.int k n).wf = true) := by
  intro m H enc w cs x h
  obtain ⟨n, rfl, _, hw⟩ := DataW.trod_int ht h
  exact ⟨n, rfl, hw⟩
theorem op_slice_at {α : Type} {d : Kd α} {wf : α → Prop} (m : Nat) (ht : P.underlying t = some (.slice e)) (hz : P.cellsOf e = d.sz) (he : ∀ m', m' < m → OpAt P m' e d wf) : OpAt P m t (Kd.slice e d) (fun l => l.length ≤ maxLen ∧ ∀ x ∈ l, wf x) := by
  intro H enc w cs x h
  rcases DataW.trod_slice ht h with ⟨rfl, _⟩ | ⟨a, len, cap, elems, rest, n, rfl, rfl, _, hb, hl, hm, hlen, hel, _, _⟩
  · exact ⟨[], ⟨none, 0, rfl, Nat.le_refl _, rfl, by simp, fun h => absurd h (Nat.lt_irrefl 0)⟩, by simp, by simp⟩
  · have each : ∀ i, i < len → ∃ y : α, wf y ∧ ∃ c : List Value, c.length = d.sz ∧ d.K w y c ∧ ∀ j u, c[j]? = some u → w.cell? (a.add (i * d.sz + j)) = some u := by
      intro i hi
      have h1 := hel i hi
      rw [List.getElem?_eq_getElem (by omega), Option.bind_eq_some_iff] at h1
      obtain ⟨c, hc, hx⟩ := h1
      obtain ⟨y, hy, hwf⟩ := he n (by omega) H enc w c _ hx
      refine ⟨y, hwf, c, d.K_len hy, hy, fun j u hj => ?_⟩
      have hc2 := World.cells?_some hc
      rw [hz] at hc2
      have hjl := (List.getElem?_eq_some_iff.1 hj).1
      have hg := hc2.2.2 j (by rw [← d.K_len hy]; exact hjl)
      rw [hj] at hg
      have ha : (a.add (i * d.sz)).add j = a.add (i * d.sz + j) := by
        unfold Addr.add
        by_cases h1 : i * d.sz = 0 <;> by_cases h2 : j = 0 <;> simp [h1, h2, Nat.add_assoc]
      rwa [ha] at hg
    have hex := list_of (Q := fun i y => wf y ∧ ∃ c : List Value, c.length = d.sz ∧ d.K w y c ∧ ∀ j u, c[j]? = some u → w.cell? (a.add (i * d.sz + j)) = some u) each
    obtain ⟨l, hll, hh⟩ := hex
    refine ⟨l, ⟨some a, cap, by rw [hll], by omega, by rw [hll], by rw [hll]; exact Nat.le_trans hl hm, fun _ => ⟨a, rfl, fun j p hj => ?_⟩⟩, by omega, fun x hx => ?_⟩
    · obtain ⟨_, c, h1, h2, h3⟩ := hh j p hj
      exact ⟨c, h1, h2, h3⟩
    · obtain ⟨i, hi⟩ := List.getElem?_of_mem hx
      exact (hh i x hi).1
theorem op_slice {α : Type} {d : Kd α} {wf : α → Prop} (ht : P.underlying t = some (.slice e)) (hz : P.cellsOf e = d.sz) (he : Op P e d wf) : Op P t (Kd.slice e d) (fun l => l.length ≤ maxLen ∧ ∀ x ∈ l, wf x) :=
  fun m => op_slice_at m ht hz (fun m' _ => he m')
theorem op_mono {α : Type} {d : Kd α} {wf wf' : α → Prop} (h : Op P t d wf) (hw : ∀ a, wf a → wf' a) : Op P t d wf' := fun m H enc w cs x hx => by
  obtain ⟨a, ha, hb⟩ := h m H enc w cs x hx
  exact ⟨a, ha, hw a hb⟩
theorem open_sl {α : Type} {d : Kd α} {wf : List α → Prop} {H : Type} {enc : TypeId × Value → H} {W : World} {a : Option Addr} {len cap : Nat} {dd : DataW H} {ps : List MemPlace} (h : Op P t (Kd.slice e d) wf)
    (hk : DataW.Trod enc P W 0 (fun _ => true) true t (.slice a len cap) dd ps) : ∃ l, wf l ∧ l.length ≤ cap ∧ d.C W a l.length l ∧ l.length = len := by
  obtain ⟨fuel, hf⟩ := hk
  obtain ⟨x, ⟨Aq, cq, eq_, hq, hCq⟩, hwq⟩ := h fuel H enc W _ _ hf
  simp only [Value.cells, List.cons.injEq, Value.slice.injEq, and_true] at eq_
  obtain ⟨rfl, rfl, rfl⟩ := eq_
  exact ⟨x, hwq, hq, hCq, rfl⟩
end
end Go.Proofs.Ytiamcmjdoobaeaa.SOpen
