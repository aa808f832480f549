/- What reads as data at a type is of a kind: for arguments that are structs, slices of structs and trees. -/
import Derived.Test.YtiamcmjdoobaeaaWMore
import Derived.ChangeArms
import Derived.ChangeSlices
import Derived.DataReads
import Derived.OpenShut
namespace Go.Proofs.Ytiamcmjdoobaeaa.SOpen
open Go.RowKit Go.ChangeShapes Go.Proofs.YtiamcmjdoobaeaaW.PrintWords Go.Proofs.YtiamcmjdoobaeaaW.PrintLast Go.Proofs.YtiamcmjdoobaeaaW.PrintMore
set_option linter.unusedVariables false
/-- What reads with so much fuel as data of a type is of a kind, and of a form. -/
abbrev OpAt (P : Program) (m : Nat) (t : TypeId) {α : Type} (d : Kd α) (wf : α → Prop) : Prop :=
  ∀ (H : Type) (enc : TypeId × Value → H) (w : World) (cs : List Value) (x : DataW H × List MemPlace), DataW.trod enc P w 0 (fun _ => true) true m t cs = some x → ∃ a, d.K w a cs ∧ wf a
abbrev Op (P : Program) (t : TypeId) {α : Type} (d : Kd α) (wf : α → Prop) : Prop := ∀ m, OpAt P m t d wf
abbrev OpSeq (P : Program) (m : Nat) (ts : List TypeId) {α : Type} (d : Kd α) (wf : α → Prop) : Prop :=
  ∀ (H : Type) (enc : TypeId × Value → H) (w : World) (css : List (List Value)), css.length = ts.length → (∀ (i : Nat) (t : TypeId) (c : List Value), ts[i]? = some t → css[i]? = some c → ∃ x, DataW.trod enc P w 0 (fun _ => true) true m t c = some x) → ∃ a, d.K w a css.flatten ∧ wf a
theorem list_of {α : Type} {Q : Nat → α → Prop} {len : Nat} (each : ∀ i, i < len → ∃ y : α, Q i y) : ∃ l : List α, l.length = len ∧ ∀ i y, l[i]? = some y → Q i y := by
  induction len with
  | zero => exact ⟨[], rfl, fun i y hy => by simp at hy⟩
  | succ len ih =>
    obtain ⟨l, hl, hh⟩ := ih (fun i hi => each i (by omega))
    obtain ⟨y, hy⟩ := each len (by omega)
    refine ⟨l ++ [y], by simp [hl], fun i z hz => ?_⟩
    rcases Nat.lt_or_ge i l.length with hi | hi
    · rw [List.getElem?_append_left hi] at hz
      exact hh i z hz
    · have hi2 := (List.getElem?_eq_some_iff.1 hz).1
      rw [List.length_append, List.length_singleton] at hi2
      have : i = len := by omega
      subst this
      rw [List.getElem?_append_right hi, hl, Nat.sub_self] at hz
      obtain rfl : y = z := by simpa using hz
      exact hy
section
variable {P : Program} {t e : TypeId}
theorem op_int {k : IntKind} (ht : P.underlying t = some (.int k)) : Op P t (Kd.int k) (fun n => (Lit.int k n).wf = true) := by
  intro m H enc w cs x h
  obtain ⟨n, rfl, _, hw⟩ := DataW.trod_int ht h
  exact ⟨n, rfl, hw⟩
theorem op_bool (ht : P.underlying t = some .bool) : Op P t Kd.bool (fun _ => True) := by
  intro m H enc w cs x h
  obtain ⟨b, rfl, _⟩ := DataW.trod_bool ht h
  exact ⟨b, rfl, trivial⟩
theorem op_string (ht : P.underlying t = some .string) : Op P t Kd.string (fun s => s.size ≤ maxLen) := by
  intro m H enc w cs x h
  obtain ⟨s, rfl, _, hs⟩ := DataW.trod_string ht h
  exact ⟨s, rfl, hs⟩
theorem op_slice_at {α : Type} {d : Kd α} {wf : α → Prop} (m : Nat) (ht : P.underlying t = some (.slice e)) (hz : P.cellsOf e = d.sz) (he : ∀ m', m' < m → OpAt P m' e d wf) : OpAt P m t (Kd.slice e d) (fun l => l.length ≤ maxLen ∧ ∀ x ∈ l, wf x) := by
  intro H enc w cs x h
  rcases DataW.trod_slice ht h with ⟨rfl, _⟩ | ⟨a, len, cap, elems, rest, n, rfl, rfl, _, hb, hl, hm, hlen, hel, _, _⟩
  · exact ⟨[], ⟨none, 0, rfl, Nat.le_refl _, rfl, by simp, fun h => absurd h (Nat.lt_irrefl 0)⟩, by simp, by simp⟩
  · have each : ∀ i, i < len → ∃ y : α, wf y ∧ ∃ c : List Value, c.length = d.sz ∧ d.K w y c ∧ ∀ j u, c[j]? = some u → w.cell? (a.add (i * d.sz + j)) = some u := by
      intro i hi
      have h1 := hel i hi
      rw [List.getElem?_eq_getElem (by omega), Option.bind_eq_some_iff] at h1
      obtain ⟨c, hc, hx⟩ := h1
      obtain ⟨y, hy, hwf⟩ := he n (by omega) H enc w c _ hx
      refine ⟨y, hwf, c, d.K_len hy, hy, fun j u hj => ?_⟩
      have hc2 := World.cells?_some hc
      rw [hz] at hc2
      have hjl := (List.getElem?_eq_some_iff.1 hj).1
      have hg := hc2.2.2 j (by rw [← d.K_len hy]; exact hjl)
      rw [hj] at hg
      have ha : (a.add (i * d.sz)).add j = a.add (i * d.sz + j) := by
        unfold Addr.add
        by_cases h1 : i * d.sz = 0 <;> by_cases h2 : j = 0 <;> simp [h1, h2, Nat.add_assoc]
      rwa [ha] at hg
    have hex := list_of (Q := fun i y => wf y ∧ ∃ c : List Value, c.length = d.sz ∧ d.K w y c ∧ ∀ j u, c[j]? = some u → w.cell? (a.add (i * d.sz + j)) = some u) each
    obtain ⟨l, hll, hh⟩ := hex
    refine ⟨l, ⟨some a, cap, by rw [hll], by omega, by rw [hll], by rw [hll]; exact Nat.le_trans hl hm, fun _ => ⟨a, rfl, fun j p hj => ?_⟩⟩, by omega, fun x hx => ?_⟩
    · obtain ⟨_, c, h1, h2, h3⟩ := hh j p hj
      exact ⟨c, h1, h2, h3⟩
    · obtain ⟨i, hi⟩ := List.getElem?_of_mem hx
      exact (hh i x hi).1
theorem op_slice {α : Type} {d : Kd α} {wf : α → Prop} (ht : P.underlying t = some (.slice e)) (hz : P.cellsOf e = d.sz) (he : Op P e d wf) : Op P t (Kd.slice e d) (fun l => l.length ≤ maxLen ∧ ∀ x ∈ l, wf x) :=
  fun m => op_slice_at m ht hz (fun m' _ => he m')
theorem seq_one {α : Type} {d : Kd α} {wf : α → Prop} {m : Nat} (h : OpAt P m t d wf) : OpSeq P m [t] d wf := by
  intro H enc w css hl hh
  obtain ⟨c, rfl⟩ := List.length_eq_one_iff.1 hl
  obtain ⟨x, hx⟩ := hh 0 t c rfl rfl
  obtain ⟨a, ha⟩ := h H enc w c x hx
  exact ⟨a, by simpa using ha⟩
theorem seq_cons {α β : Type} {d : Kd α} {d' : Kd β} {wf : α → Prop} {wf' : β → Prop} {ts : List TypeId} {m : Nat} (h : OpAt P m t d wf) (h' : OpSeq P m ts d' wf') : OpSeq P m (t :: ts) (Kd.pair d d') (fun p => wf p.1 ∧ wf' p.2) := by
  intro H enc w css hl hh
  cases css with
  | nil => simp at hl
  | cons c css =>
    obtain ⟨x, hx⟩ := hh 0 t c rfl rfl
    obtain ⟨a, ha, hw⟩ := h H enc w c x hx
    obtain ⟨b, hb, hw'⟩ := h' H enc w css (by simpa using hl) (fun i t c h1 h2 => hh (i + 1) t c (by simpa using h1) (by simpa using h2))
    exact ⟨(a, b), ⟨c, css.flatten, by simp, ha, hb⟩, hw, hw'⟩
def offs (P : Program) : Nat → List Field → Nat → Bool
  | off, [], n => off == n
  | off, f :: fs, n => f.offset == off && offs P (off + P.cellsOf f.type) fs n
theorem flat (P : Program) (cs : List Value) : ∀ (fs : List Field) (off : Nat), offs P off fs cs.length = true → (fs.map fun f => (cs.drop f.offset).take (P.cellsOf f.type)).flatten = cs.drop off
  | [], off, h => by
    simp only [offs, beq_iff_eq] at h
    simp [h]
  | f :: fs, off, h => by
    simp only [offs, Bool.and_eq_true, beq_iff_eq] at h
    obtain ⟨h1, h⟩ := h
    subst h1
    rw [List.map_cons, List.flatten_cons, flat P cs fs _ h, ← List.drop_drop]
    exact List.take_append_drop _ _
theorem op_struct_at {α β : Type} {d : Kd α} {wf : α → Prop} {fs : Array Field} (f : β → α) (g : α → β) (hfg : ∀ a, f (g a) = a) (m : Nat) (ht : P.underlying t = some (.struct fs)) (ho : offs P 0 fs.toList (P.cellsOf t) = true)
    (h : ∀ m', m' < m → OpSeq P m' (fs.toList.map (·.type)) d wf) : OpAt P m t (Kd.iso d f) (fun b => wf (f b)) := by
  intro H enc w cs x hx
  obtain ⟨xs, n, rfl, _, hl, hxs, hh⟩ := DataW.trod_struct ht hx
  rw [← hl] at ho
  have hf := flat P cs fs.toList 0 ho
  obtain ⟨a, ha, hw⟩ := h n (by omega) H enc w (fs.toList.map fun f => (cs.drop f.offset).take (P.cellsOf f.type)) (by simp) (by
    intro i t c h1 h2
    simp only [List.getElem?_map, Option.map_eq_some_iff] at h1 h2
    obtain ⟨q, hq, rfl⟩ := h1
    obtain ⟨q', hq', rfl⟩ := h2
    obtain rfl : q = q' := by rw [hq] at hq'; exact Option.some.inj hq'
    have h3 := hh i q (by simpa using hq)
    have hi : i < xs.length := by have := (List.getElem?_eq_some_iff.1 hq).1; simp at this; omega
    rw [List.getElem?_eq_getElem hi] at h3
    exact ⟨_, h3⟩)
  rw [hf, List.drop_zero] at ha
  exact ⟨g a, by show d.K w (f (g a)) cs; rw [hfg]; exact ha, by show wf (f (g a)); rw [hfg]; exact hw⟩
theorem op_struct {α β : Type} {d : Kd α} {wf : α → Prop} {fs : Array Field} (f : β → α) (g : α → β) (hfg : ∀ a, f (g a) = a) (ht : P.underlying t = some (.struct fs)) (ho : offs P 0 fs.toList (P.cellsOf t) = true)
    (h : ∀ m, OpSeq P m (fs.toList.map (·.type)) d wf) : Op P t (Kd.iso d f) (fun b => wf (f b)) := fun m => op_struct_at f g hfg m ht ho (fun m' _ => h m')
theorem op_fix {α : Type} {F : Kd α → Kd α} {sz : Nat} {E : List Nat} {hs : ∀ n, (Kd.upto F sz E n).sz = sz} {hE : ∀ n q, q ∈ (Kd.upto F sz E n).E → q ∈ E} {wf : α → Prop} (hm : Kd.Mono F)
    (step : ∀ (d : Kd α), d.sz = sz → ∀ m, (∀ m', m' < m → OpAt P m' t d wf) → OpAt P m t (F d) wf) : Op P t (Kd.fix F sz E hs hE) wf := by
  have key : ∀ n m, m < n → OpAt P m t (Kd.upto F sz E (m + 1)) wf := by
    intro n
    induction n with
    | zero => intro m hm; omega
    | succ n ih =>
      intro m hmn
      refine step _ (hs m) m (fun m' hm' => ?_)
      intro H enc w cs x hx
      obtain ⟨a, ha, hw⟩ := ih m' (by omega) H enc w cs x hx
      exact ⟨a, Kd.upto_K_le hm hs (by omega) ha, hw⟩
  intro m H enc w cs x hx
  obtain ⟨a, ha, hw⟩ := key (m + 1) m (by omega) H enc w cs x hx
  exact ⟨a, ⟨m + 1, ha⟩, hw⟩
theorem op_mono {α : Type} {d : Kd α} {wf wf' : α → Prop} (h : Op P t d wf) (hw : ∀ a, wf a → wf' a) : Op P t d wf' := fun m H enc w cs x hx => by
  obtain ⟨a, ha, hb⟩ := h m H enc w cs x hx
  exact ⟨a, ha, hw a hb⟩
theorem open_sl {α : Type} {d : Kd α} {wf : List α → Prop} {H : Type} {enc : TypeId × Value → H} {W : World} {a : Option Addr} {len cap : Nat} {dd : DataW H} {ps : List MemPlace} (h : Op P t (Kd.slice e d) wf)
    (hk : DataW.Trod enc P W 0 (fun _ => true) true t (.slice a len cap) dd ps) : ∃ l, wf l ∧ l.length ≤ cap ∧ d.C W a l.length l ∧ l.length = len := by
  obtain ⟨fuel, hf⟩ := hk
  obtain ⟨x, ⟨Aq, cq, eq_, hq, hCq⟩, hwq⟩ := h fuel H enc W _ _ hf
  simp only [Value.cells, List.cons.injEq, Value.slice.injEq, and_true] at eq_
  obtain ⟨rfl, rfl, rfl⟩ := eq_
  exact ⟨x, hwq, hq, hCq, rfl⟩
theorem open_st {α : Type} {d : Kd α} {wf : α → Prop} {H : Type} {enc : TypeId × Value → H} {W : World} {cs : Array Value} {dd : DataW H} {ps : List MemPlace} (h : Op P t d wf)
    (hk : DataW.Trod enc P W 0 (fun _ => true) true t (.agg cs) dd ps) : ∃ x, d.K W x cs.toList ∧ wf x := by
  obtain ⟨fuel, hf⟩ := hk
  exact h fuel H enc W _ _ hf
end
end Go.Proofs.Ytiamcmjdoobaeaa.SOpen
