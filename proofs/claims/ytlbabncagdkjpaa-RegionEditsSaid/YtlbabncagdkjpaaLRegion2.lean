/- Checks and edits of regions. -/
import Derived.Test.YtlbabncagdkjpaaLRegion
import Derived.Test.YtlbabncagdkjpaaLEv
import Derived.Test.YtlbabncagdkjpaaPAllx5
import Derived.Test.YtlbabncagdkjpaaPAllx6
import Derived.Test.YtlbabncagdkjpaaPAllx7
import Derived.Test.YtlbabncagdkjpaaPAllx8
import Derived.Test.YtlbabncagdkjpaaPAllx9
import Derived.Test.YtlbabncagdkjpaaPAllx10
namespace Go.Proofs.Ytlbabncagdkjpaa.LRegion2
open Go.RowKit Go.Proofs.Ytlbabncagdkjpaa.LText Go.Proofs.Ytlbabncagdkjpaa.LRegion Go.Proofs.Ytlbabncagdkjpaa.PAll Go.Proofs.YtlbabncagdkjpaaW.PrintWords Go.Proofs.YtlbabncagdkjpaaW.PrintLast Go.Proofs.YtlbabncagdkjpaaW.PrintMore
set_option linter.unusedVariables false
set_option linter.unusedSimpArgs false
abbrev Ed := S38
theorem rdR (pre : List Rg) (r : Rg) (rest : List Rg) : rd_T29 (pre ++ r :: rest) (pre.length : Int) = r := by
  unfold rd_T29
  simp [List.getD_eq_getElem?_getD]
theorem rdE (pre : List Ed) (r : Ed) (rest : List Ed) : rd_T38 (pre ++ r :: rest) (pre.length : Int) = r := by
  unfold rd_T38
  simp [List.getD_eq_getElem?_getD]
theorem up1 (n : Nat) (h : n < 1000000) : wrap64 ((n : Int) + 1) = ((n + 1 : Nat) : Int) := by rw [LEv.w64 _ (by omega) (by omega)]; omega
theorem app1 {α : Type} (pre : List α) (r : α) (rest : List α) : pre ++ r :: rest = (pre ++ [r]) ++ rest := by simp
theorem len1 {α : Type} (pre : List α) (r : α) : ((pre ++ [r]).length : Int) = ((pre.length + 1 : Nat) : Int) := by simp
def okE (q : ByteArray) (r : Rg) : Prop := 0 ≤ r.f2 ∧ r.f2 ≤ r.f3 ∧ r.f3 ≤ (q.size : Int)
instance (q : ByteArray) (r : Rg) : Decidable (okE q r) := by unfold okE; exact inferInstance
def ed (q : ByteArray) (r : Rg) : Ed := ⟨r.f0, r.f1, q.extract r.f2.toNat r.f3.toNat⟩
/-- what Edits tells -/
def edS (q : ByteArray) : List Ed → List Rg → List Ed × Int
  | acc, [] => (acc, 0)
  | acc, r :: l => if okE q r then edS q (acc ++ [ed q r]) l else ([], 13)
theorem edS_ok (q : ByteArray) : ∀ (l : List Rg) (acc : List Ed), (∀ r ∈ l, okE q r) → edS q acc l = (acc ++ l.map (ed q), 0)
  | [], acc, _ => by simp [edS]
  | r :: l, acc, h => by
    simp only [edS]
    rw [if_pos (h r List.mem_cons_self), edS_ok q l _ (fun x hx => h x (List.mem_cons_of_mem _ hx))]
    simp
theorem edS_no (q : ByteArray) : ∀ (l : List Rg) (acc : List Ed), ¬ (∀ r ∈ l, okE q r) → edS q acc l = ([], 13)
  | [], acc, h => absurd (by simp) h
  | r :: l, acc, h => by
    simp only [edS]
    by_cases c : okE q r
    · rw [if_pos c]
      refine edS_no q l _ (fun hh => h (fun x hx => ?_))
      rcases List.mem_cons.1 hx with rfl | hx
      · exact c
      · exact hh x hx
    · rw [if_neg c]
theorem edits_l0 (q : ByteArray) (l : List Rg) (hl : l.length ≤ 100) : ∀ (rest pre : List Rg) (acc : List Ed), l = pre ++ rest → acc.length = pre.length →
    Ev (fun m => region_Edits.l0 m q acc l (l.length : Int) (pre.length : Int)) (edS q acc rest)
  | [], pre, acc, h, ha => by
    subst h
    refine Ev.step (fun m => region_Edits.l0.eq_2 ..) (LEv.neg (by simp) ?_)
    exact Ev.now _
  | r :: rest, pre, acc, h, ha => by
    subst h
    have hlen : pre.length + 1 ≤ 100 := by simp at hl; omega
    refine Ev.step (fun m => region_Edits.l0.eq_2 ..) (LEv.pos (by simp <;> omega) (LEv.pos (by omega) (LEv.pos (by simp <;> omega) ?_)))
    rw [rdR, up1 _ (by omega)]
    simp only [edS]
    by_cases c : okE q r
    · obtain ⟨c1, c2, c3⟩ := c
      rw [if_pos (show okE q r from ⟨c1, c2, c3⟩)]
      refine LEv.neg (by omega) (LEv.neg (by omega) (LEv.neg (by omega) (LEv.pos c1 (LEv.pos c2 (LEv.pos c3 (LEv.pos (by omega) ?_))))))
      have ih := edits_l0 q (pre ++ r :: rest) hl rest (pre ++ [r]) (acc ++ [ed q r]) (by simp) (by simp [ha])
      rw [len1] at ih
      exact ih
    · rw [if_neg c]
      unfold okE at c
      by_cases c1 : r.f2 < 0
      · exact LEv.pos c1 (Ev.now _)
      · by_cases c2 : r.f2 > r.f3
        · exact LEv.neg c1 (LEv.pos c2 (Ev.now _))
        · exact LEv.neg c1 (LEv.neg c2 (LEv.pos (by omega) (Ev.now _)))
theorem edits_ev (q : ByteArray) (l : List Rg) (hl : l.length ≤ 100) : Ev (fun m => region_Edits.f m q l) (edS q [] l) := edits_l0 q l hl l [] [] rfl rfl
/-! ### the law of edits -/
theorem law_l1 (q : ByteArray) (l : List Rg) (hl : l.length ≤ 100) (hok : ∀ r ∈ l, okE q r) : ∀ (rest pre : List Rg), l = pre ++ rest →
    Ev (fun m => notarylaw38_RegionEdits.l1 m q l (l.map (ed q)) (pre.length : Int)) true
  | [], pre, h => by
    subst h
    refine Ev.step (fun m => notarylaw38_RegionEdits.l1.eq_2 ..) (LEv.neg (by simp) ?_)
    exact LEv.bd _ awake_ev (Ev.now _)
  | r :: rest, pre, h => by
    subst h
    have hlen : pre.length + 1 ≤ 100 := by simp at hl; omega
    obtain ⟨c1, c2, c3⟩ := hok r (by simp)
    have he : rd_T38 ((pre ++ r :: rest).map (ed q)) (pre.length : Int) = ed q r := by
      have := rdE (pre.map (ed q)) (ed q r) (rest.map (ed q))
      rw [List.length_map] at this
      rw [List.map_append, List.map_cons]
      exact this
    refine Ev.step (fun m => notarylaw38_RegionEdits.l1.eq_2 ..) (LEv.pos (by simp <;> omega) (LEv.pos (by omega) (LEv.pos (by simp <;> omega) ?_)))
    rw [rdR, he, up1 _ (by omega)]
    refine LEv.pos rfl (LEv.pos rfl (LEv.pos c1 (LEv.pos c2 (LEv.pos c3 (LEv.pos rfl ?_)))))
    have ih := law_l1 q (pre ++ r :: rest) hl hok rest (pre ++ [r]) (by simp)
    rw [len1] at ih
    exact ih
theorem law_l0 (q : ByteArray) (l : List Rg) (hl : l.length ≤ 100) : ∀ (rest pre : List Rg), l = pre ++ rest → (∀ r ∈ pre, okE q r) →
    Ev (fun m => notarylaw38_RegionEdits.l0 m q l (edS q [] l).1 (edS q [] l).2 (pre.length : Int)) true
  | [], pre, h, hp => by
    subst h
    rw [List.append_nil] at hl ⊢
    rw [edS_ok q pre [] hp]
    refine Ev.step (fun m => notarylaw38_RegionEdits.l0.eq_2 ..) (LEv.neg (by simp) (LEv.pos rfl ?_))
    refine Ev.step (fun m => notarylaw38_RegionEdits.j1.eq_2 ..) (LEv.neg (by simp) ?_)
    exact law_l1 q pre hl hp pre [] rfl
  | r :: rest, pre, h, hp => by
    subst h
    have hlen : pre.length + 1 ≤ 100 := by simp at hl; omega
    refine Ev.step (fun m => notarylaw38_RegionEdits.l0.eq_2 ..) (LEv.pos (by simp <;> omega) (LEv.pos (by omega) ?_))
    rw [rdR, up1 _ (by omega)]
    by_cases c : okE q r
    · obtain ⟨c1, c2, c3⟩ := c
      refine LEv.neg (by omega) (LEv.neg (by omega) (LEv.neg (by omega) ?_))
      have ih := law_l0 q (pre ++ r :: rest) hl rest (pre ++ [r]) (by simp) (fun x hx => by
        rcases List.mem_append.1 hx with hx | hx
        · exact hp x hx
        · rw [List.mem_singleton.1 hx]; exact ⟨c1, c2, c3⟩)
      rw [len1] at ih
      exact ih
    · rw [edS_no q (pre ++ r :: rest) [] (fun hh => c (hh r (by simp)))]
      unfold okE at c
      have fin : Ev (fun m => if (13 : Int) = 13 then (if ((([] : List Ed).length : Nat) : Int) = 0 then ((notarylaw38_awake.f m).bind fun t265 => (some t265)) else (some false)) else (some false)) true :=
        LEv.pos rfl (LEv.pos rfl (LEv.bd _ awake_ev (Ev.now _)))
      by_cases c1 : r.f2 < 0
      · exact LEv.pos c1 fin
      · by_cases c2 : r.f2 > r.f3
        · exact LEv.neg c1 (LEv.pos c2 fin)
        · exact LEv.neg c1 (LEv.neg c2 (LEv.pos (by omega) fin))
theorem RegionEdits_ev (q : ByteArray) (l : List Rg) : Ev (fun m => notarylaw38_RegionEdits.f m q l) true := by
  refine Ev.congr (fun m => notarylaw38_RegionEdits.f.eq_1 ..) ?_
  by_cases hl : (l.length : Int) > 100
  · exact LEv.pos hl (LEv.bd _ awake_ev (Ev.now _))
  · refine LEv.neg hl (LEv.bd _ (edits_ev q l (by omega)) ?_)
    exact law_l0 q l (by omega) l [] rfl (by simp)
/-! ### checks -/
def ins (a b n e : Int) : Prop := a > e ∧ a ≤ b ∧ b ≤ n
instance (a b n e : Int) : Decidable (ins a b n e) := by unfold ins; exact inferInstance
def fineS (n k : Int) : Int → Int → List Rg → Bool
  | _, _, [] => true
  | a, b, r :: l => decide (ins r.f0 r.f1 n a) && (decide (ins r.f2 r.f3 k b) && fineS n k r.f1 r.f3 l)
def cmpS (p q : ByteArray) : Int → Int → List Rg → Bool
  | a, b, [] => decide ((p.extract a.toNat p.size).toList = (q.extract b.toNat q.size).toList)
  | a, b, r :: l => decide ((p.extract a.toNat r.f0.toNat).toList = (q.extract b.toNat r.f2.toNat).toList) && cmpS p q r.f1 r.f3 l
def checkS (p q : ByteArray) (l : List Rg) : Int := if fineS p.size q.size (-1) (-1) l = true then (if cmpS p q 0 0 l = true then 0 else 21) else 13
theorem inside_eq (a b n e : Int) : region_inside.f a b n e = some (decide (ins a b n e)) := by
  unfold region_inside.f ins
  by_cases h1 : a > e
  · by_cases h2 : a ≤ b
    · rw [if_pos h1, if_pos h2]; simp [h1, h2]
    · rw [if_pos h1, if_neg h2]; simp [h2]
  · rw [if_neg h1]; simp [h1]
theorem fine_l0 (p q : ByteArray) (l : List Rg) (hl : l.length ≤ 100) : ∀ (rest pre : List Rg) (a b : Int), l = pre ++ rest →
    Ev (fun m => region_fine.l0 m p q a b l (l.length : Int) (pre.length : Int)) (fineS p.size q.size a b rest)
  | [], pre, a, b, h => by
    subst h
    exact Ev.step (fun m => region_fine.l0.eq_2 ..) (LEv.neg (by simp) (Ev.now _))
  | r :: rest, pre, a, b, h => by
    subst h
    have hlen : pre.length + 1 ≤ 100 := by simp at hl; omega
    refine Ev.step (fun m => region_fine.l0.eq_2 ..) (LEv.pos (by simp <;> omega) (LEv.pos (by omega) (LEv.pos (by simp <;> omega) ?_)))
    rw [rdR, up1 _ (by omega)]
    simp only [fineS]
    refine LEv.eqb (inside_eq ..) ?_
    by_cases c : ins r.f0 r.f1 p.size a
    · refine LEv.pos (by simpa using c) (LEv.eqb (inside_eq ..) ?_)
      by_cases c2 : ins r.f2 r.f3 q.size b
      · refine LEv.pos (by simpa using c2) ?_
        have ih := fine_l0 p q (pre ++ r :: rest) hl rest (pre ++ [r]) r.f1 r.f3 (by simp)
        rw [len1] at ih
        simp only [decide_eq_true c, decide_eq_true c2, Bool.true_and]
        exact ih
      · refine LEv.neg (by simpa using c2) (LEv.fin ?_)
        simp [c2]
    · refine LEv.neg (by simpa using c) (LEv.fin ?_)
      simp [c]
theorem check_l0 (p q : ByteArray) (hp : p.size ≤ 140737488351232) (hq : q.size ≤ 140737488351232) (l : List Rg) (hl : l.length ≤ 100) : ∀ (rest pre : List Rg) (a b : Int) (a' b' : Int), l = pre ++ rest → 0 ≤ a → a ≤ p.size → 0 ≤ b → b ≤ q.size →
    a' ≤ a → b' ≤ b → a - a' ≤ 1 → b - b' ≤ 1 → (a' = a ∨ a' = -1) → (b' = b ∨ b' = -1) → fineS p.size q.size a' b' rest = true →
    Ev (fun m => region_Check.l0 m p q a b l (l.length : Int) (pre.length : Int)) (if cmpS p q a b rest = true then 0 else 21)
  | [], pre, a, b, a', b', h, h1, h2, h3, h4, _, _, _, _, _, _, _ => by
    subst h
    refine Ev.step (fun m => region_Check.l0.eq_2 ..) (LEv.neg (by simp) (LEv.pos h1 (LEv.pos h2 (LEv.pos h3 (LEv.pos h4 ?_)))))
    simp only [cmpS]
    by_cases c : (p.extract a.toNat p.size).toList = (q.extract b.toNat q.size).toList
    · exact LEv.pos c (LEv.fin (by simp [c]))
    · exact LEv.neg c (LEv.fin (by simp [c]))
  | r :: rest, pre, a, b, a', b', h, h1, h2, h3, h4, g1, g2, g3, g4, g5, g6, hf => by
    subst h
    have hlen : pre.length + 1 ≤ 100 := by simp at hl; omega
    simp only [fineS, Bool.and_eq_true, decide_eq_true_eq] at hf
    obtain ⟨⟨f1, f2, f3⟩, ⟨f4, f5, f6⟩, f7⟩ := hf
    have e1 : a ≤ r.f0 := by omega
    have e2 : b ≤ r.f2 := by omega
    refine Ev.step (fun m => region_Check.l0.eq_2 ..) (LEv.pos (by simp <;> omega) (LEv.pos (by omega) (LEv.pos (by simp <;> omega) (LEv.pos h1 ?_))))
    rw [rdR, up1 _ (by omega)]
    refine LEv.pos e1 (LEv.pos (by omega) (LEv.pos h3 (LEv.pos e2 (LEv.pos (by omega) ?_))))
    by_cases c : (p.extract a.toNat r.f0.toNat).toList = (q.extract b.toNat r.f2.toNat).toList
    · refine LEv.pos c ?_
      have ih := check_l0 p q hp hq (pre ++ r :: rest) hl rest (pre ++ [r]) r.f1 r.f3 r.f1 r.f3 (by simp) (by omega) (by omega) (by omega) (by omega) (Int.le_refl _) (Int.le_refl _) (by omega) (by omega) (.inl rfl) (.inl rfl) f7
      rw [len1] at ih
      rw [show cmpS p q a b (r :: rest) = cmpS p q r.f1 r.f3 rest by simp [cmpS, c]]
      exact ih
    · exact LEv.neg c (LEv.fin (by simp [cmpS, c]))
theorem check_ev (p q : ByteArray) (hp : p.size ≤ 140737488351232) (hq : q.size ≤ 140737488351232) (l : List Rg) (hl : l.length ≤ 100) : Ev (fun m => region_Check.f m p q l) (checkS p q l) := by
  refine Ev.congr (fun m => region_Check.f.eq_1 ..) (LEv.bd (fineS p.size q.size (-1) (-1) l) (Ev.congr (fun m => region_fine.f.eq_1 ..) (fine_l0 p q l hl l [] (-1) (-1) rfl)) ?_)
  unfold checkS
  by_cases c : fineS p.size q.size (-1) (-1) l = true
  · rw [if_pos c]
    refine LEv.pos c ?_
    exact check_l0 p q hp hq l hl l [] 0 0 (-1) (-1) rfl (by omega) (by omega) (by omega) (by omega) (by omega) (by omega) (by omega) (by omega) (.inr rfl) (.inr rfl) c
  · rw [if_neg c]
    exact LEv.neg c (Ev.now _)
/-! ### the reference's check -/
theorem may_l0 (n k : Int) (l : List Rg) (hl : l.length ≤ 100) : ∀ (rest pre : List Rg) (a b : Int), l = pre ++ rest → ((pre = [] ∧ a = -1 ∧ b = -1) ∨ ∃ pr r0, pre = pr ++ [r0] ∧ a = r0.f1 ∧ b = r0.f3 ∧ 0 ≤ a ∧ 0 ≤ b) →
    Ev (fun m => notaryref38_May.l0 m n k l (pre.length : Int)) (fineS n k a b rest)
  | [], pre, a, b, h, _ => by
    subst h
    exact Ev.step (fun m => notaryref38_May.l0.eq_2 ..) (LEv.neg (by simp) (Ev.now _))
  | r :: rest, pre, a, b, h, hpre => by
    have hl' := h
    subst h
    have hlen : pre.length + 1 ≤ 100 := by simp at hl; omega
    have hno : ∀ (c : Prop) [Decidable c], ¬ (ins r.f0 r.f1 n a ∧ ins r.f2 r.f3 k b) → Ev (fun m => some false) (fineS n k a b (r :: rest)) := by
      intro c _ hc
      refine LEv.fin ?_
      simp only [fineS]
      by_cases c1 : ins r.f0 r.f1 n a
      · have : ¬ ins r.f2 r.f3 k b := fun c2 => hc ⟨c1, c2⟩
        simp [this]
      · simp [c1]
    have hj1 : ¬ (ins r.f0 r.f1 n a ∧ ins r.f2 r.f3 k b) → Ev (fun m => notaryref38_May.j1 m n k (pre ++ r :: rest) (pre.length : Int) true r.f0 r.f1 r.f2 r.f3) (fineS n k a b (r :: rest)) := by
      intro hc
      exact Ev.step (fun m => notaryref38_May.j1.eq_2 ..) (LEv.pos rfl (hno True hc))
    have hab : -1 ≤ a ∧ -1 ≤ b := by rcases hpre with ⟨_, rfl, rfl⟩ | ⟨_, _, _, _, _, h1, h2⟩ <;> omega
    refine Ev.step (fun m => notaryref38_May.l0.eq_2 ..) (LEv.pos (by simp <;> omega) (LEv.pos (by omega) ?_))
    rw [rdR]
    refine LEv.ite (fun c => hj1 (fun hh => by have := hh.1.1; omega)) (fun c1 => ?_)
    refine LEv.ite (fun c => hj1 (fun hh => by have := hh.1.2.1; omega)) (fun c2 => ?_)
    refine LEv.ite (fun c => hj1 (fun hh => by have := hh.1.2.2; omega)) (fun c3 => ?_)
    refine LEv.ite (fun c => hj1 (fun hh => by have := hh.2.1; omega)) (fun c4 => ?_)
    refine LEv.ite (fun c => hj1 (fun hh => by have := hh.2.2.1; omega)) (fun c5 => ?_)
    by_cases c6 : r.f3 > k
    · rw [decide_eq_true c6]
      exact hj1 (fun hh => by have := hh.2.2.2; omega)
    · rw [decide_eq_false c6]
      refine Ev.step (fun m => notaryref38_May.j1.eq_2 ..) (LEv.neg (by simp) ?_)
      have ih := may_l0 n k (pre ++ r :: rest) hl rest (pre ++ [r]) r.f1 r.f3 (by simp) (.inr ⟨pre, r, rfl, rfl, rfl, by omega, by omega⟩)
      rw [len1] at ih
      rw [up1 _ (by omega)]
      have hyes : a < r.f0 → b < r.f2 → fineS n k a b (r :: rest) = fineS n k r.f1 r.f3 rest := by
        intro h1 h2
        simp only [fineS]
        rw [decide_eq_true (show ins r.f0 r.f1 n a from ⟨h1, by omega, by omega⟩), decide_eq_true (show ins r.f2 r.f3 k b from ⟨h2, by omega, by omega⟩)]
        rfl
      rcases hpre with ⟨rfl, rfl, rfl⟩ | ⟨pr, r0, rfl, rfl, rfl, h1, h2⟩
      · refine LEv.neg (by simp) ?_
        rw [hyes (by omega) (by omega)]
        exact ih
      · have e0 : wrap64 (((pr ++ [r0]).length : Int) - 1) = (pr.length : Int) := by rw [LEv.w64 _ (by omega) (by omega)]; simp
        refine LEv.pos (by simp <;> omega) ?_
        rw [e0]
        refine LEv.pos (by omega) (LEv.pos (by simp <;> omega) ?_)
        have hr0 : rd_T29 (pr ++ [r0] ++ r :: rest) (pr.length : Int) = r0 := by
          rw [List.append_assoc]
          exact rdR pr r0 (r :: rest)
        rw [hr0]
        refine LEv.ite (fun c => hno True (fun hh => by have := hh.1.1; omega)) (fun c7 => ?_)
        refine LEv.ite (fun c => hno True (fun hh => by have := hh.2.1; omega)) (fun c8 => ?_)
        rw [hyes (by omega) (by omega)]
        exact ih
/-- the pieces between regions -/
def pcs (s : ByteArray) (second : Bool) : Int → List Rg → List ByteArray
  | a, [] => [s.extract a.toNat s.size]
  | a, r :: l => s.extract a.toNat (if second = true then r.f2 else r.f0).toNat :: pcs s second (if second = true then r.f3 else r.f1) l
theorem pcs_len (s : ByteArray) (second : Bool) : ∀ (l : List Rg) (a : Int), (pcs s second a l).length = l.length + 1
  | [], a => rfl
  | r :: l, a => by simp [pcs, pcs_len s second l]
def goodP (s : ByteArray) (second : Bool) : Int → List Rg → Prop
  | a, [] => 0 ≤ a ∧ a ≤ s.size
  | a, r :: l => 0 ≤ a ∧ a ≤ (if second = true then r.f2 else r.f0) ∧ (if second = true then r.f2 else r.f0) ≤ s.size ∧ goodP s second (if second = true then r.f3 else r.f1) l
theorem rest_l0 (s : ByteArray) (second : Bool) (l : List Rg) (hl : l.length ≤ 100) : ∀ (rest pre : List Rg) (a : Int) (acc : List ByteArray), l = pre ++ rest → acc.length = pre.length → goodP s second a rest →
    Ev (fun m => notaryref38_Rest.l0 m s l second acc a (pre.length : Int)) (acc ++ pcs s second a rest)
  | [], pre, a, acc, h, hacc, hg => by
    subst h
    refine Ev.step (fun m => notaryref38_Rest.l0.eq_2 ..) (LEv.neg (by simp) (LEv.pos hg.1 (LEv.pos hg.2 (LEv.pos ?_ (Ev.now _)))))
    simp at hl; omega
  | r :: rest, pre, a, acc, h, hacc, hg => by
    subst h
    have hlen : pre.length + 1 ≤ 100 := by simp at hl; omega
    refine Ev.step (fun m => notaryref38_Rest.l0.eq_2 ..) (LEv.pos (by simp <;> omega) (LEv.pos (by omega) ?_))
    rw [rdR, up1 _ (by omega)]
    obtain ⟨h1, h2, h3, h4⟩ := hg
    have ih := rest_l0 s second (pre ++ r :: rest) hl rest (pre ++ [r]) (if second = true then r.f3 else r.f1) (acc ++ [s.extract a.toNat (if second = true then r.f2 else r.f0).toNat]) (by simp) (by simp [hacc]) h4
    rw [len1] at ih
    simp only [pcs]
    rw [show acc ++ s.extract a.toNat (if second = true then r.f2 else r.f0).toNat :: pcs s second (if second = true then r.f3 else r.f1) rest = acc ++ [s.extract a.toNat (if second = true then r.f2 else r.f0).toNat] ++ pcs s second (if second = true then r.f3 else r.f1) rest by simp]
    cases second with
    | true =>
      simp only [if_true] at ih h1 h2 h3 ⊢
      exact LEv.pos h1 (LEv.pos h2 (LEv.pos h3 (LEv.pos (by omega) ih)))
    | false =>
      simp only [Bool.false_eq_true, if_false] at ih h1 h2 h3 ⊢
      exact LEv.pos h1 (LEv.pos h2 (LEv.pos h3 (LEv.pos (by omega) ih)))
theorem good_of (p q : ByteArray) : ∀ (l : List Rg) (a b a' b' : Int), 0 ≤ a → a ≤ p.size → 0 ≤ b → b ≤ q.size → (a' = a ∨ (a' = -1 ∧ a = 0)) → (b' = b ∨ (b' = -1 ∧ b = 0)) → fineS p.size q.size a' b' l = true → goodP p false a l ∧ goodP q true b l
  | [], a, b, a', b', h1, h2, h3, h4, _, _, _ => ⟨⟨h1, h2⟩, ⟨h3, h4⟩⟩
  | r :: l, a, b, a', b', h1, h2, h3, h4, h5, h6, hf => by
    simp only [fineS, Bool.and_eq_true, decide_eq_true_eq] at hf
    obtain ⟨⟨f1, f2, f3⟩, ⟨f4, f5, f6⟩, f7⟩ := hf
    have ih := good_of p q l r.f1 r.f3 r.f1 r.f3 (by omega) (by omega) (by omega) (by omega) (.inl rfl) (.inl rfl) f7
    refine ⟨?_, ?_⟩
    · simp only [goodP, Bool.false_eq_true, if_false]
      exact ⟨h1, by omega, by omega, ih.1⟩
    · simp only [goodP, if_true]
      exact ⟨h3, by omega, by omega, ih.2⟩
theorem rdS (pre : List ByteArray) (r : ByteArray) (rest : List ByteArray) (n : Nat) (h : n = pre.length) : rdOf ByteArray.empty (pre ++ r :: rest) (n : Int) = r := by
  unfold rdOf
  subst h
  simp [List.getD_eq_getElem?_getD]
theorem rcheck_l0 (p q : ByteArray) : ∀ (rest : List Rg) (a b : Int) (A B : List ByteArray) (n : Nat), A.length = n → B.length = n → n + rest.length ≤ 200 →
    Ev (fun m => notaryref38_Check.l0 m (A ++ pcs p false a rest) (B ++ pcs q true b rest) (n : Int)) (if cmpS p q a b rest = true then 0 else 21)
  | [], a, b, A, B, n, hA, hB, hn => by
    simp only [pcs, cmpS]
    refine Ev.step (fun m => notaryref38_Check.l0.eq_2 ..) (LEv.pos (by simp; omega) (LEv.pos (by omega) (LEv.pos (by simp; omega) ?_)))
    rw [rdS _ _ _ _ hA.symm, rdS _ _ _ _ hB.symm, up1 _ (by omega)]
    by_cases c : (p.extract a.toNat p.size).toList = (q.extract b.toNat q.size).toList
    · refine LEv.pos c (Ev.step (fun m => notaryref38_Check.l0.eq_2 ..) (LEv.neg (by simp; omega) (LEv.fin (by simp [c]))))
    · exact LEv.neg c (LEv.fin (by simp [c]))
  | r :: rest, a, b, A, B, n, hA, hB, hn => by
    simp only [pcs, if_true, Bool.false_eq_true, if_false]
    simp only [List.length_cons] at hn
    refine Ev.step (fun m => notaryref38_Check.l0.eq_2 ..) (LEv.pos (by simp; omega) (LEv.pos (by omega) (LEv.pos (by simp; omega) ?_)))
    rw [rdS _ _ _ _ hA.symm, rdS _ _ _ _ hB.symm, up1 _ (by omega)]
    by_cases c : (p.extract a.toNat r.f0.toNat).toList = (q.extract b.toNat r.f2.toNat).toList
    · refine LEv.pos c ?_
      have ih := rcheck_l0 p q rest r.f1 r.f3 (A ++ [p.extract a.toNat r.f0.toNat]) (B ++ [q.extract b.toNat r.f2.toNat]) (n + 1) (by simp [hA]) (by simp [hB]) (by omega)
      rw [← app1, ← app1] at ih
      rw [show cmpS p q a b (r :: rest) = cmpS p q r.f1 r.f3 rest by simp [cmpS, c]]
      exact ih
    · exact LEv.neg c (LEv.fin (by simp [cmpS, c]))
theorem rcheck_ev (p q : ByteArray) (l : List Rg) (hl : l.length ≤ 100) : Ev (fun m => notaryref38_Check.f m p q l) (checkS p q l) := by
  refine Ev.congr (fun m => notaryref38_Check.f.eq_1 ..) (LEv.bd (fineS p.size q.size (-1) (-1) l) (Ev.congr (fun m => notaryref38_May.f.eq_1 ..) (may_l0 p.size q.size l hl l [] (-1) (-1) rfl (.inl ⟨rfl, rfl, rfl⟩))) ?_)
  unfold checkS
  by_cases c : fineS p.size q.size (-1) (-1) l = true
  · obtain ⟨g1, g2⟩ := good_of p q l 0 0 (-1) (-1) (by omega) (by omega) (by omega) (by omega) (.inr ⟨rfl, rfl⟩) (.inr ⟨rfl, rfl⟩) c
    rw [if_pos c]
    refine LEv.pos c (LEv.bd _ (Ev.congr (fun m => notaryref38_Rest.f.eq_1 ..) (rest_l0 p false l hl l [] 0 [] rfl rfl g1)) (LEv.bd _ (Ev.congr (fun m => notaryref38_Rest.f.eq_1 ..) (rest_l0 q true l hl l [] 0 [] rfl rfl g2)) ?_))
    exact rcheck_l0 p q l 0 0 [] [] 0 rfl rfl (by omega)
  · rw [if_neg c]
    exact LEv.neg c (Ev.now _)
/-! ### turned round -/
def turn (r : Rg) : Rg := ⟨r.f2, r.f3, r.f0, r.f1⟩
theorem turned_l0 (l : List Rg) (hl : l.length ≤ 100) : ∀ (rest pre : List Rg), l = pre ++ rest → Ev (fun m => notaryref38_Turned.l0 m l (pre.map turn) (pre.length : Int)) (l.map turn)
  | [], pre, h => by
    subst h
    exact Ev.step (fun m => notaryref38_Turned.l0.eq_2 ..) (LEv.neg (by simp) (LEv.fin (by simp)))
  | r :: rest, pre, h => by
    subst h
    have hlen : pre.length + 1 ≤ 100 := by simp at hl; omega
    refine Ev.step (fun m => notaryref38_Turned.l0.eq_2 ..) (LEv.pos (by simp <;> omega) (LEv.pos (by omega) (LEv.pos (by simp <;> omega) ?_)))
    rw [rdR, up1 _ (by omega)]
    have ih := turned_l0 (pre ++ r :: rest) hl rest (pre ++ [r]) (by simp)
    rw [len1, List.map_append] at ih
    exact ih
theorem turned_ev (l : List Rg) (hl : l.length ≤ 100) : Ev (fun m => notaryref38_Turned.f m l) (l.map turn) := turned_l0 l hl l [] rfl
theorem fine_turn (n k : Int) : ∀ (l : List Rg) (a b : Int), fineS k n b a (l.map turn) = fineS n k a b l
  | [], a, b => rfl
  | r :: l, a, b => by
    simp only [List.map_cons, fineS, turn]
    rw [show fineS k n r.f3 r.f1 (l.map turn) = fineS n k r.f1 r.f3 l from fine_turn n k l r.f1 r.f3, ← Bool.and_assoc, ← Bool.and_assoc, Bool.and_comm (decide (ins r.f2 r.f3 k b))]
theorem cmp_turn (p q : ByteArray) : ∀ (l : List Rg) (a b : Int), cmpS q p b a (l.map turn) = cmpS p q a b l
  | [], a, b => by
    simp only [List.map_nil, cmpS]
    rw [decide_eq_decide]
    exact eq_comm
  | r :: l, a, b => by
    simp only [List.map_cons, cmpS, turn]
    rw [show cmpS q p r.f3 r.f1 (l.map turn) = cmpS p q r.f1 r.f3 l from cmp_turn p q l r.f1 r.f3]
    congr 1
    rw [decide_eq_decide]
    exact eq_comm
theorem check_turn (p q : ByteArray) (l : List Rg) : checkS q p (l.map turn) = checkS p q l := by
  unfold checkS
  rw [fine_turn, cmp_turn]
/-! ### edits applied -/
theorem cat_list (a b : ByteArray) : (a ++ b).toList = a.toList ++ b.toList := by
  rw [ByteArray.toList_eq, ByteArray.toList_eq, ByteArray.toList_eq, ByteArray.data_append, Array.toList_append]
theorem ex_size (s : ByteArray) (a b : Nat) (h : a ≤ b) (hb : b ≤ s.size) : (s.extract a b).size = b - a := by
  rw [← len_list, ext_list, List.length_drop, List.length_take, len_list]; omega
/-- edits that come in their order -/
def asc : List Ed → Prop
  | [] => True
  | [_] => True
  | a :: b :: l => a.f0 ≤ b.f0 ∧ asc (b :: l)
theorem asc_last : ∀ (pre : List Ed) (a b : Ed) (rest : List Ed), asc (pre ++ a :: b :: rest) → a.f0 ≤ b.f0
  | [], a, b, rest, h => h.1
  | [c], a, b, rest, h => h.2.1
  | c :: d :: pre, a, b, rest, h => asc_last (d :: pre) a b rest h.2
theorem sorted_l0 (l : List Ed) (hl : l.length ≤ 100) (ha : asc l) : ∀ (rest pre : List Ed), l = pre ++ rest → Ev (fun m => notaryref11_Sorted.l0 m l pre (pre.length : Int)) l
  | [], pre, h => by
    subst h
    exact Ev.step (fun m => notaryref11_Sorted.l0.eq_2 ..) (LEv.neg (by simp) (LEv.fin (by simp)))
  | r :: rest, pre, h => by
    subst h
    have hlen : pre.length + 1 ≤ 100 := by simp at hl; omega
    have ih := sorted_l0 (pre ++ r :: rest) hl ha rest (pre ++ [r]) (by simp)
    rw [len1] at ih
    have fin : Ev (fun k => notaryref11_Sorted.l0 k (pre ++ r :: rest) (pre ++ [r] ++ []) (wrap64 ((pre.length : Int) + 1))) (pre ++ r :: rest) := by
      rw [up1 _ (by omega), List.append_nil]; exact ih
    have ht : List.take ((pre.length : Int)).toNat pre = pre := by rw [Int.toNat_natCast, List.take_length]
    have hd : List.drop ((pre.length : Int)).toNat pre = [] := by rw [Int.toNat_natCast, List.drop_length]
    refine Ev.step (fun m => notaryref11_Sorted.l0.eq_2 ..) (LEv.pos (by simp <;> omega) ?_)
    refine Ev.step (fun m => notaryref11_Sorted.l1.eq_2 ..) ?_
    rw [rdE, ht, hd]
    rcases List.eq_nil_or_concat pre with rfl | ⟨pr, r0, rfl⟩
    · refine LEv.neg (by simp) (LEv.sb (LEv.pos (by simp) (LEv.pos (by simp) (LEv.sb (LEv.pos (by simp) (LEv.sb (LEv.sb (LEv.pos (by simp) (LEv.pos (by simp <;> omega) (LEv.pos (by simp) (LEv.sb (LEv.pos (by simp) ?_))))))))))))
      exact fin
    · rw [List.concat_eq_append] at *
      have e0 : wrap64 (((pr ++ [r0]).length : Int) - 1) = (pr.length : Int) := by rw [LEv.w64 _ (by omega) (by omega)]; simp
      have hr0 : rd_T38 (pr ++ [r0]) (pr.length : Int) = r0 := rdE pr r0 []
      have hle : r0.f0 ≤ r.f0 := asc_last pr r0 r rest (by rw [List.append_assoc] at ha; exact ha)
      rw [e0, hr0]
      refine LEv.pos (by simp <;> omega) (LEv.pos (by omega) (LEv.pos (by simp <;> omega) (LEv.pos (by omega) (LEv.pos (by simp <;> omega) (LEv.neg (by omega) ?_)))))
      refine LEv.sb (LEv.pos (by omega) (LEv.pos (by simp <;> omega) (LEv.sb (LEv.pos (by simp) (LEv.sb (LEv.sb (LEv.pos (by simp at hlen ⊢; omega) (LEv.sb (LEv.pos (by simp at hlen ⊢; omega) ?_)))))))))
      exact fin
theorem sorted_ev (l : List Ed) (hl : l.length ≤ 100) (ha : asc l) : Ev (fun m => notaryref11_Sorted.f m l) l := sorted_l0 l hl ha l [] rfl
/-- the texts up to a place correspond -/
theorem asc_of (p q : ByteArray) : ∀ (l : List Rg) (a b : Int), fineS p.size q.size a b l = true → asc (l.map (ed q))
  | [], _, _, _ => trivial
  | [r], _, _, _ => trivial
  | r :: r' :: l, a, b, h => by
    simp only [fineS, Bool.and_eq_true, decide_eq_true_eq] at h
    obtain ⟨⟨f1, f2, f3⟩, ⟨f4, f5, f6⟩, ⟨g1, g2, g3⟩, g4, g5⟩ := h
    refine ⟨by show r.f0 ≤ r'.f0; omega, asc_of p q (r' :: l) r.f1 r.f3 ?_⟩
    simp only [fineS, Bool.and_eq_true, decide_eq_true_eq]
    exact ⟨⟨g1, g2, g3⟩, g4, g5⟩
theorem okE_of (p q : ByteArray) : ∀ (l : List Rg) (a b : Int), -1 ≤ a → -1 ≤ b → fineS p.size q.size a b l = true → ∀ r ∈ l, okE q r ∧ 0 ≤ r.f0 ∧ r.f0 ≤ r.f1 ∧ r.f1 ≤ p.size
  | [], _, _, _, _, _ => by simp
  | r :: l, a, b, ha, hb, h => by
    simp only [fineS, Bool.and_eq_true, decide_eq_true_eq] at h
    obtain ⟨⟨f1, f2, f3⟩, ⟨f4, f5, f6⟩, g⟩ := h
    have ih := okE_of p q l r.f1 r.f3 (by omega) (by omega) g
    intro x hx
    rcases List.mem_cons.1 hx with rfl | hx
    · exact ⟨⟨by omega, f5, f6⟩, by omega, f2, f3⟩
    · exact ih x hx
theorem list_step {α : Type} (P Q : List α) (a f0 f1 b f2 f3 : Nat) (h1 : a ≤ f0) (h2 : f0 ≤ f1) (h3 : f1 ≤ P.length) (h4 : b ≤ f2) (h5 : f2 ≤ f3) (h6 : f3 ≤ Q.length) (h : (P.take f0).drop a = (Q.take f2).drop b) :
    (P.take f1 ++ Q.drop f3).take f0 ++ (Q.take f3).drop f2 ++ (P.take f1 ++ Q.drop f3).drop f1 = P.take a ++ Q.drop b := by
  have z : ∀ (l : List α) (m n : Nat), m ≤ n → l.take n = l.take m ++ (l.take n).drop m := by
    intro l m n hmn
    have := (List.take_append_drop m (l.take n)).symm
    rwa [List.take_take, Nat.min_eq_left hmn] at this
  have k0 : (P.take f1 ++ Q.drop f3).take f0 = P.take f0 := by
    rw [List.take_append_of_le_length (by rw [List.length_take]; omega), List.take_take, Nat.min_eq_left h2]
  have k1 : (P.take f1 ++ Q.drop f3).drop f1 = Q.drop f3 := by
    rw [List.drop_append_of_le_length (by rw [List.length_take]; omega), List.drop_of_length_le (by rw [List.length_take]; omega), List.nil_append]
  have k2 : Q.drop b = (Q.take f2).drop b ++ ((Q.take f3).drop f2 ++ Q.drop f3) := by
    have : Q = Q.take f2 ++ ((Q.take f3).drop f2 ++ Q.drop f3) := by
      rw [← List.append_assoc, ← z Q f2 f3 h5, List.take_append_drop]
    conv => lhs; rw [this]
    rw [List.drop_append_of_le_length (by rw [List.length_take]; omega)]
  rw [k0, k1, k2, z P a f0 h1, h]
  simp [List.append_assoc]
/-- behind the first regions -/
def endP : List Rg → Int
  | [] => 0
  | r :: l => (r :: l).getLast (by simp) |>.f1
/-- the texts agree behind each region: the rest of q behind b is what the edits make of the rest of p behind a -/
theorem agree (p q : ByteArray) (hp : p.size ≤ 140737488351232) (hq : q.size ≤ 140737488351232) : ∀ (l : List Rg) (a b a' b' : Int), 0 ≤ a → a ≤ p.size → 0 ≤ b → b ≤ q.size → (a' = a ∨ (a' = -1 ∧ a = 0)) → (b' = b ∨ (b' = -1 ∧ b = 0)) → fineS p.size q.size a' b' l = true → cmpS p q a b l = true →
    ∀ (L pre : List Ed), L = pre ++ l.map (ed q) → L.length ≤ 100 → ∀ (x : ByteArray) , (∀ (t : ByteArray), t.toList = p.toList.take a.toNat ++ q.toList.drop b.toNat → ∃ y, y.toList = x.toList ∧ Ev (fun m => notaryref11_Apply.l0 m t L ((pre.length : Int) - 1)) y) →
    ∃ y, y.toList = x.toList ∧ Ev (fun m => notaryref11_Apply.l0 m p L ((L.length : Int) - 1)) y
  | [], a, b, a', b', h1, h2, h3, h4, h5, h6, hf, hc, L, pre, hL, hl, x, hx => by
    simp only [List.map_nil, List.append_nil] at hL
    subst hL
    refine hx p ?_
    simp only [cmpS, decide_eq_true_eq] at hc
    rw [ext_list, ext_list, List.take_of_length_le (by rw [len_list]; omega), List.take_of_length_le (by rw [len_list]; omega)] at hc
    rw [← hc, List.take_append_drop]
  | r :: l, a, b, a', b', h1, h2, h3, h4, h5, h6, hf, hc, L, pre, hL, hl, x, hx => by
    simp only [fineS, Bool.and_eq_true, decide_eq_true_eq] at hf
    obtain ⟨⟨f1, f2, f3⟩, ⟨f4, f5, f6⟩, g⟩ := hf
    simp only [cmpS, Bool.and_eq_true, decide_eq_true_eq] at hc
    obtain ⟨hc1, hc2⟩ := hc
    have h5' : a ≤ r.f0 := by omega
    have h6' : b ≤ r.f2 := by omega
    have hpl : pre.length + 1 ≤ L.length := by rw [hL]; simp <;> omega
    refine agree p q hp hq l r.f1 r.f3 r.f1 r.f3 (by omega) (by omega) (by omega) (by omega) (.inl rfl) (.inl rfl) g hc2 L (pre ++ [ed q r]) (by rw [hL]; simp) hl x ?_
    intro t ht
    have hlt : t.size = r.f1.toNat + (q.size - r.f3.toNat) := by
      rw [← len_list, ht, List.length_append, List.length_take, List.length_drop, len_list, len_list]; omega
    have hrd : rd_T38 L (pre.length : Int) = ed q r := by rw [hL, List.map_cons]; exact rdE _ _ _
    have hq2 : (q.extract r.f2.toNat r.f3.toNat).size = r.f3.toNat - r.f2.toNat := ex_size _ _ _ (by omega) (by omega)
    have s1 : (t.extract 0 r.f0.toNat).size = r.f0.toNat := by rw [ex_size _ _ _ (by omega) (by omega)]; omega
    have s2 : (t.extract r.f1.toNat t.size).size = t.size - r.f1.toNat := ex_size _ _ _ (by omega) (by omega)
    have e1 : wrap64 ((pre.length : Int) - 1) = (pre.length : Int) - 1 := LEv.w64 _ (by omega) (by omega)
    have e2 : ((pre ++ [ed q r]).length : Int) - 1 = (pre.length : Int) := by simp
    obtain ⟨y, hy, hev⟩ := hx (t.extract 0 r.f0.toNat ++ q.extract r.f2.toNat r.f3.toNat ++ t.extract r.f1.toNat t.size) (by
      rw [cat_list, cat_list, ext_list, ext_list, ext_list, List.drop_zero, List.take_of_length_le (l := t.toList) (i := t.size) (by rw [len_list]; exact Nat.le_refl _), ht]
      rw [ext_list, ext_list] at hc1
      exact list_step p.toList q.toList a.toNat r.f0.toNat r.f1.toNat b.toNat r.f2.toNat r.f3.toNat (by omega) (by omega) (by rw [len_list]; omega) (by omega) (by omega) (by rw [len_list]; omega) hc1)
    refine ⟨y, hy, ?_⟩
    rw [e2]
    refine Ev.step (fun m => notaryref11_Apply.l0.eq_2 ..) (LEv.pos (by omega) (LEv.pos (by omega) (LEv.pos (by omega) ?_)))
    rw [hrd, e1]
    refine LEv.pos (show 0 ≤ r.f0 by omega) (LEv.pos (show r.f0 ≤ (t.size : Int) by omega) (LEv.pos ?_ (LEv.pos (show 0 ≤ r.f1 by omega) (LEv.pos (show r.f1 ≤ (t.size : Int) by omega) (LEv.pos ?_ hev)))))
    · show (t.extract 0 r.f0.toNat).size + (q.extract r.f2.toNat r.f3.toNat).size ≤ _
      omega
    · show (t.extract 0 r.f0.toNat ++ q.extract r.f2.toNat r.f3.toNat).size + (t.extract r.f1.toNat t.size).size ≤ _
      rw [ByteArray.size_append]
      omega
theorem apply_ev (p q : ByteArray) (hp : p.size ≤ 140737488351232) (hq : q.size ≤ 140737488351232) (l : List Rg) (hl : l.length ≤ 100) (h : checkS p q l = 0) : ∃ y, y.toList = q.toList ∧ Ev (fun m => notaryref11_Apply.f m p (l.map (ed q))) y := by
  unfold checkS at h
  by_cases c : fineS p.size q.size (-1) (-1) l = true
  case neg => rw [if_neg c] at h; exact absurd h (by decide)
  rw [if_pos c] at h
  by_cases c2 : cmpS p q 0 0 l = true
  case neg => rw [if_neg c2] at h; exact absurd h (by decide)
  have hs := sorted_ev (l.map (ed q)) (by simpa using hl) (asc_of p q l _ _ c)
  obtain ⟨y, hy, hev⟩ := agree p q hp hq l 0 0 (-1) (-1) (by omega) (by omega) (by omega) (by omega) (.inr ⟨rfl, rfl⟩) (.inr ⟨rfl, rfl⟩) c c2 (l.map (ed q)) [] rfl (by simpa using hl) q (fun t ht => ⟨t, by simpa using ht, Ev.step (fun m => notaryref11_Apply.l0.eq_2 ..) (LEv.neg (by simp) (Ev.now _))⟩)
  refine ⟨y, hy, Ev.congr (fun m => notaryref11_Apply.f.eq_1 ..) (LEv.bd _ hs ?_)⟩
  rw [LEv.w64 _ (by simp <;> omega) (by simp <;> omega)]
  exact hev
theorem RegionChecks_ev (p q : ByteArray) (hp : p.size ≤ 140737488351232) (hq : q.size ≤ 140737488351232) (l : List Rg) : Ev (fun m => notarylaw38_RegionChecks.f m p q l) true := by
  refine Ev.congr (fun m => notarylaw38_RegionChecks.f.eq_1 ..) ?_
  by_cases hl : (l.length : Int) > 100
  · exact LEv.pos hl (LEv.bd _ awake_ev (Ev.now _))
  · have hl' : l.length ≤ 100 := by omega
    have ht : (l.map turn).length ≤ 100 := by simpa using hl'
    refine LEv.neg hl (LEv.bd _ (check_ev p q hp hq l hl') (LEv.bd _ (rcheck_ev p q l hl') (LEv.pos rfl (LEv.bd _ (turned_ev l hl') (LEv.bd _ (check_ev q p hq hp _ ht) ?_)))))
    rw [check_turn]
    refine Ev.step (fun m => notarylaw38_RegionChecks.j0.eq_2 ..) (LEv.neg (by simp) ?_)
    by_cases c : checkS p q l = 0
    · have hok : ∀ r ∈ l, okE q r := by
        intro r hr
        unfold checkS at c
        by_cases c1 : fineS p.size q.size (-1) (-1) l = true
        · exact (okE_of p q l (-1) (-1) (by omega) (by omega) c1 r hr).1
        · rw [if_neg c1] at c; exact absurd c (by decide)
      have he := edits_ev q l hl'
      rw [edS_ok q l [] hok, List.nil_append] at he
      obtain ⟨y, hy, hev⟩ := apply_ev p q hp hq l hl' c
      refine LEv.pos c (LEv.bd _ he (LEv.pos rfl (LEv.pos (by simp) (LEv.bd _ hev (LEv.pos hy (LEv.bd _ awake_ev (Ev.now _)))))))
    · exact LEv.neg c (LEv.bd _ awake_ev (Ev.now _))
end Go.Proofs.Ytlbabncagdkjpaa.LRegion2
