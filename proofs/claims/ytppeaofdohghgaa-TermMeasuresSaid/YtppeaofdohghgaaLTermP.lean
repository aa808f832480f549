/- Terms: what is put at a path, and how large and deep terms are. -/
import Derived.Test.YtppeaofdohghgaaLTermS
import Derived.Test.YtppeaofdohghgaaPTmx1
import Derived.Test.YtppeaofdohghgaaPTmx3
import Derived.Test.YtppeaofdohghgaaPTmx6
import Derived.Test.YtppeaofdohghgaaPTmx7
import Derived.Test.YtppeaofdohghgaaPTmx8
import Derived.Test.YtppeaofdohghgaaPTmx9
namespace Go.Proofs.Ytppeaofdohghgaa.LTerm
open Go.RowKit Go.Proofs.Ytppeaofdohghgaa.PTm Go.Proofs.YtppeaofdohghgaaW.PrintWords Go.Proofs.YtppeaofdohghgaaW.PrintLast Go.Proofs.YtppeaofdohghgaaW.PrintMore
set_option linter.unusedVariables false
set_option linter.unusedSimpArgs false
theorem fine_get {t : T} (h : Fine t) {i : Int} (h0 : 0 ≤ i) (h1 : i < (t.f3.length : Int)) : Fine (rd_T24 t.f3 i) := by
  rw [rd_get t.f3 i h0 h1]
  exact h.sub (List.getElem_mem _)
theorem small_get {n : Nat} {t : T} (h : Small (n + 1) t) {i : Int} (h0 : 0 ≤ i) (h1 : i < (t.f3.length : Int)) : Small n (rd_T24 t.f3 i) := by
  rw [rd_get t.f3 i h0 h1]
  exact h.sub (List.getElem_mem _)
theorem Small.pos {n : Nat} {t : T} (h : Small n t) : ∃ k, n = k + 1 := by cases h; exact ⟨_, rfl⟩
theorem Small.fine {t : T} : ∀ {n}, Small n t → Fine t := by
  induction t using ind with
  | h t ih =>
  intro n h
  obtain ⟨k, rfl⟩ := h.pos
  exact Fine.mk t (by have := h.len; omega) (fun y hy => ih y hy (h.sub hy))
theorem Small.mono {t : T} : ∀ {n m : Nat}, Small n t → n ≤ m → Small m t := by
  induction t using ind with
  | h t ih =>
  intro n m h hm
  obtain ⟨k, rfl⟩ := h.pos
  obtain ⟨j, rfl⟩ : ∃ j, m = j + 1 := ⟨m - 1, by omega⟩
  exact Small.mk j t h.len (fun y hy => ih y hy (h.sub hy) (by omega))
def putS : List Int → T → T → T
  | [], t, x => x
  | i :: ps, t, x => ⟨t.f0, t.f1, t.f2, t.f3.set i.toNat (putS ps (rd_T24 t.f3 i) x), t.f4, t.f5⟩
def none0 : T := ⟨0, 0, ⟨#[]⟩, [], 0, 0⟩
theorem put_no : ∀ (p : List Int) (t x : T), atS p t = none → term_Put.f p t x = some (none0, false)
  | [], t, x, h => by cases h
  | i :: ps, t, x, h => by
    rw [atS] at h
    rw [term_Put.f]
    by_cases hi : 0 ≤ i ∧ i < (t.f3.length : Int)
    · rw [if_pos hi] at h ⊢
      rw [put_no ps _ x h]
      rfl
    · rw [if_neg hi]
      rfl
theorem put_yes : ∀ (p : List Int) (n : Nat) (t x y : T), Small n t → atS p t = some y → term_Put.f p t x = some (putS p t x, true)
  | [], n, t, x, y, hS, h => rfl
  | i :: ps, n, t, x, y, hS, h => by
    rw [atS] at h
    by_cases hi : 0 ≤ i ∧ i < (t.f3.length : Int)
    case neg => rw [if_neg hi] at h; exact absurd h (by simp)
    rw [if_pos hi] at h
    have hlen := hS.len
    obtain ⟨n, rfl⟩ := hS.pos
    rw [term_Put.f, if_pos hi, put_yes ps n _ x y (small_get hS hi.1 hi.2) h]
    simp only [Option.bind_some, if_true]
    rw [if_pos (by omega)]
    rfl
theorem at_small : ∀ (p : List Int) (n : Nat) (t y : T), Small n t → atS p t = some y → ∃ m, m ≤ n ∧ Small m y
  | [], n, t, y, hS, h => by obtain rfl := Option.some.inj h; exact ⟨n, Nat.le_refl _, hS⟩
  | i :: ps, n, t, y, hS, h => by
    rw [atS] at h
    by_cases hi : 0 ≤ i ∧ i < (t.f3.length : Int)
    case neg => rw [if_neg hi] at h; exact absurd h (by simp)
    rw [if_pos hi] at h
    obtain ⟨n, rfl⟩ := hS.pos
    obtain ⟨m, h1, h2⟩ := at_small ps n _ y (small_get hS hi.1 hi.2) h
    exact ⟨m, by omega, h2⟩
theorem put_small : ∀ (p : List Int) (n m : Nat) (t x y : T), Small n t → Small m x → atS p t = some y → Small (n + m) (putS p t x)
  | [], n, m, t, x, y, hS, hx, h => hx.mono (by omega)
  | i :: ps, n, m, t, x, y, hS, hx, h => by
    rw [atS] at h
    by_cases hi : 0 ≤ i ∧ i < (t.f3.length : Int)
    case neg => rw [if_neg hi] at h; exact absurd h (by simp)
    rw [if_pos hi] at h
    obtain ⟨n, rfl⟩ := hS.pos
    have ih := put_small ps n m _ x y (small_get hS hi.1 hi.2) hx h
    rw [putS, show n + 1 + m = (n + m) + 1 by omega]
    refine Small.mk _ _ (by simp; exact hS.len) (fun z hz => ?_)
    rcases List.mem_or_eq_of_mem_set hz with hz | rfl
    · exact (hS.sub hz).mono (by omega)
    · exact ih
theorem rd_set (l : List T) (i : Int) (v : T) (h0 : 0 ≤ i) (h1 : i < (l.length : Int)) : rd_T24 (l.set i.toNat v) i = v := by
  rw [rd_get _ i h0 (by simpa using h1)]
  simp
theorem rd_set_ne (l : List T) (i j : Int) (v : T) (h0 : 0 ≤ i) (h2 : 0 ≤ j) (hij : i ≠ j) : rd_T24 (l.set i.toNat v) j = rd_T24 l j := by
  unfold rd_T24
  rw [List.getD_eq_getElem?_getD, List.getD_eq_getElem?_getD, List.getElem?_set_ne (by omega)]
theorem at_put : ∀ (p : List Int) (t x y : T), atS p t = some y → atS p (putS p t x) = some x
  | [], t, x, y, h => rfl
  | i :: ps, t, x, y, h => by
    rw [atS] at h
    by_cases hi : 0 ≤ i ∧ i < (t.f3.length : Int)
    case neg => rw [if_neg hi] at h; exact absurd h (by simp)
    rw [if_pos hi] at h
    rw [putS, atS]
    simp only
    rw [if_pos (by rw [List.length_set]; exact hi), rd_set _ _ _ hi.1 hi.2]
    exact at_put ps _ x y h
theorem at_off : ∀ (p o : List Int) (t x y u : T), atS p t = some y → atS o t = some u → ¬ p <+: o → ¬ o <+: p → atS o (putS p t x) = some u
  | [], o, t, x, y, u, h, hu, h1, h2 => absurd (List.nil_prefix) h1
  | i :: ps, [], t, x, y, u, h, hu, h1, h2 => absurd (List.nil_prefix) h2
  | i :: ps, j :: os, t, x, y, u, h, hu, h1, h2 => by
    rw [atS] at h hu
    by_cases hi : 0 ≤ i ∧ i < (t.f3.length : Int)
    case neg => rw [if_neg hi] at h; exact absurd h (by simp)
    by_cases hj : 0 ≤ j ∧ j < (t.f3.length : Int)
    case neg => rw [if_neg hj] at hu; exact absurd hu (by simp)
    rw [if_pos hi] at h
    rw [if_pos hj] at hu
    rw [putS, atS]
    simp only
    rw [if_pos (by rw [List.length_set]; exact hj)]
    by_cases hij : i = j
    · subst hij
      rw [rd_set _ _ _ hi.1 hi.2]
      exact at_off ps os _ x y u h hu (fun hh => h1 (List.cons_prefix_cons.2 ⟨rfl, hh⟩)) (fun hh => h2 (List.cons_prefix_cons.2 ⟨rfl, hh⟩))
    · rw [rd_set_ne _ _ _ _ hi.1 hj.1 hij]
      exact hu
theorem mem_sum (y : T) : ∀ l : List T, y ∈ l → sz y ≤ (l.map sz).sum
  | [], h => by simp at h
  | a :: l, h => by
    simp only [List.map_cons, List.sum_cons]
    rcases List.mem_cons.1 h with rfl | h
    · omega
    · have := mem_sum y l h; omega
theorem sum_set (l : List T) (v : T) : ∀ (i : Nat) (h : i < l.length), ((l.set i v).map sz).sum + sz l[i] = (l.map sz).sum + sz v := by
  induction l with
  | nil => intro i h; simp at h
  | cons a l ih =>
    intro i h
    cases i with
    | zero => simp; omega
    | succ i => have := ih i (by simpa using h); simp at this ⊢; omega
theorem put_sz : ∀ (p : List Int) (t x y : T), atS p t = some y → sz (putS p t x) + sz y = sz t + sz x ∧ sz y ≤ sz t
  | [], t, x, y, h => by obtain rfl := Option.some.inj h; exact ⟨by rw [putS]; omega, Nat.le_refl _⟩
  | i :: ps, t, x, y, h => by
    rw [atS] at h
    by_cases hi : 0 ≤ i ∧ i < (t.f3.length : Int)
    case neg => rw [if_neg hi] at h; exact absurd h (by simp)
    rw [if_pos hi] at h
    obtain ⟨ih1, ih2⟩ := put_sz ps _ x y h
    have e := sz_eq (putS (i :: ps) t x)
    have e2 := sz_eq t
    rw [putS] at e ⊢
    simp only at e
    have hg := rd_get t.f3 i hi.1 hi.2
    have s := sum_set t.f3 (putS ps (rd_T24 t.f3 i) x) i.toNat (by omega)
    rw [← hg] at s
    have s2 : sz (rd_T24 t.f3 i) ≤ (t.f3.map sz).sum := by
      rw [hg]
      exact mem_sum _ _ (List.getElem_mem _)
    omega
theorem leads_ev : ∀ (p : List Int) (t : T), Ev (fun m => notaryref06_Leads.f m t.f0 t.f1 t.f2 t.f3 t.f4 t.f5 p) (atS p t).isSome
  | [], t => Ev.step (fun m => notaryref06_Leads.f.eq_2 ..) (LEv.pos (by simp) (Ev.now _))
  | i :: ps, t => by
    have e : rd (i :: ps) 0 = i := rfl
    refine Ev.step (fun m => notaryref06_Leads.f.eq_2 ..) (LEv.neg (by simp <;> omega) (LEv.pos (by simp <;> omega) ?_))
    rw [e, atS]
    by_cases h1 : i ≥ 0
    · by_cases h2 : i < (t.f3.length : Int)
      · rw [if_pos ⟨h1, h2⟩]
        exact LEv.pos h1 (LEv.pos h2 (LEv.pos h1 (LEv.pos (by simp <;> omega) (LEv.bd _ (leads_ev ps (rd_T24 t.f3 i)) (Ev.now _)))))
      · rw [if_neg (by omega)]
        exact LEv.pos h1 (LEv.neg h2 (Ev.now _))
    · rw [if_neg (by omega)]
      exact LEv.neg h1 (Ev.now _)
theorem placed_self (a : T) : Fine a → Ev (fun m => notaryref06_Placed.f m a.f0 a.f1 a.f2 a.f3 a.f4 a.f5 a.f0 a.f1 a.f2 a.f3 a.f4 a.f5) true := by
  induction a using ind with
  | h a ih =>
  intro hF
  have hlen := hF.len
  have key : ∀ (rest pre : List T), a.f3 = pre ++ rest → Ev (fun m => notaryref06_Placed.l0 m (pre.length : Int) a.f0 a.f1 a.f2 a.f3 a.f4 a.f5 a.f0 a.f1 a.f2 a.f3 a.f4 a.f5) true := by
    intro rest
    induction rest with
    | nil => exact fun pre ha => Ev.step (fun m => notaryref06_Placed.l0.eq_2 ..) (LEv.neg (by rw [ha]; simp) (Ev.now _))
    | cons x rest ih2 =>
      intro pre ha
      have e1 : rd_T24 a.f3 (pre.length : Int) = x := by rw [ha]; exact rdT _ _ _
      have e3 : (pre.length : Int) < (a.f3.length : Int) := by rw [ha]; exact lenlt _ _ _
      refine Ev.step (fun m => notaryref06_Placed.l0.eq_2 ..) (LEv.pos e3 (LEv.pos (by omega) (LEv.pos e3 ?_)))
      rw [e1, up1 _ (by rw [ha] at hlen; simp at hlen; omega), ← len1 pre x]
      exact LEv.bd true (ih x (by rw [ha]; simp) (hF.sub (by rw [ha]; simp))) (LEv.pos rfl (ih2 (pre ++ [x]) (by rw [ha]; simp)))
  refine Ev.step (fun m => notaryref06_Placed.f.eq_2 ..) (LEv.pos rfl (LEv.pos rfl (LEv.pos rfl (LEv.pos rfl (LEv.pos rfl ?_)))))
  rw [show ((a.f3.length : Int) != (a.f3.length : Int)) = false by simp]
  exact Ev.step (fun m => notaryref06_Placed.j0.eq_2 ..) (LEv.neg (by decide) (key a.f3 [] rfl))
def tup6 (y : T) : Int × Int × ByteArray × List T × Int × Int := (y.f0, y.f1, y.f2, y.f3, y.f4, y.f5)
theorem refput_ev : ∀ (p : List Int) (n : Nat) (t x y : T), Small n t → atS p t = some y → Ev (fun m => notaryref06_Put.f m t.f0 t.f1 t.f2 t.f3 t.f4 t.f5 p x.f0 x.f1 x.f2 x.f3 x.f4 x.f5) (tup6 (putS p t x))
  | [], n, t, x, y, hS, h => Ev.step (fun m => notaryref06_Put.f.eq_2 ..) (LEv.pos (by simp) (Ev.now _))
  | i :: ps, n, t, x, y, hS, h => by
    rw [atS] at h
    by_cases hi : 0 ≤ i ∧ i < (t.f3.length : Int)
    case neg => rw [if_neg hi] at h; exact absurd h (by simp)
    rw [if_pos hi] at h
    obtain ⟨n, rfl⟩ := hS.pos
    have hlen := hS.len
    have ih := refput_ev ps n (rd_T24 t.f3 i) x y (small_get hS hi.1 hi.2) h
    have e : rd (i :: ps) 0 = i := rfl
    obtain ⟨v, hv⟩ : ∃ v, v = putS ps (rd_T24 t.f3 i) x := ⟨_, rfl⟩
    rw [← hv] at ih
    have key : ∀ (rest pre : List T), t.f3 = pre ++ rest → Ev (fun m => notaryref06_Put.l0 m (i :: ps) ((t.f3.set i.toNat v).take pre.length) (pre.length : Int) t.f0 t.f1 t.f2 t.f3 t.f4 t.f5 x.f0 x.f1 x.f2 x.f3 x.f4 x.f5) (tup6 ⟨t.f0, t.f1, t.f2, t.f3.set i.toNat v, t.f4, t.f5⟩) := by
      intro rest
      induction rest with
      | nil =>
        intro pre ha
        refine Ev.step (fun m => notaryref06_Put.l0.eq_2 ..) (LEv.neg (by rw [ha]; simp) (LEv.fin ?_))
        rw [List.take_of_length_le (by rw [List.length_set, ha]; simp)]
        rfl
      | cons z rest ih2 =>
        intro pre ha
        have e1 : rd_T24 t.f3 (pre.length : Int) = z := by rw [ha]; exact rdT _ _ _
        have e3 : (pre.length : Int) < (t.f3.length : Int) := by rw [ha]; exact lenlt _ _ _
        have e4 : pre.length < (t.f3.set i.toNat v).length := by rw [List.length_set]; omega
        have hs := ih2 (pre ++ [z]) (by rw [ha]; simp)
        rw [len1 pre z, show (pre ++ [z]).length = pre.length + 1 by simp, List.take_succ_eq_append_getElem e4] at hs
        refine Ev.step (fun m => notaryref06_Put.l0.eq_2 ..) (LEv.pos e3 (LEv.pos (by simp <;> omega) ?_))
        rw [e, up1 _ (by omega)]
        by_cases hpi : (pre.length : Int) = i
        · refine LEv.pos hpi (LEv.pos (by omega) (LEv.pos (by simp <;> omega) ?_))
          rw [show rd_T24 t.f3 (pre.length : Int) = rd_T24 t.f3 i by rw [hpi]]
          refine LEv.bd _ ih (LEv.pos (by simp <;> omega) ?_)
          rw [show (t.f3.set i.toNat v)[pre.length] = v by simp [show i.toNat = pre.length by omega]] at hs
          cases v
          exact hs
        · refine LEv.neg hpi (LEv.pos (by omega) (LEv.pos (by simp <;> omega) ?_))
          rw [e1]
          rw [List.getElem_set_ne (by omega), show t.f3[pre.length] = z by simp [ha]] at hs
          cases z
          exact hs
    rw [putS, ← hv]
    exact Ev.step (fun m => notaryref06_Put.f.eq_2 ..) (LEv.neg (by simp <;> omega) (key t.f3 [] rfl))
theorem way_ev (a b : List Int) (ha : a.length ≤ 1000) (h : a.length = b.length) : Ev (fun m => notaryref06_Way.f m a b) (decide (a = b)) := by
  have key : ∀ (r pre r' pre' : List Int), a = pre ++ r → b = pre' ++ r' → pre.length = pre'.length → Ev (fun m => notaryref06_Way.l0 m a b (pre.length : Int)) (decide (r = r')) := by
    intro r
    induction r with
    | nil =>
      intro pre r' pre' e1 e2 e3
      obtain rfl : r' = [] := List.eq_nil_of_length_eq_zero (by rw [e1, e2] at h; simp at h; omega)
      exact Ev.step (fun m => notaryref06_Way.l0.eq_2 ..) (LEv.neg (by rw [e1]; simp) (LEv.fin (by simp)))
    | cons x r ih =>
      intro pre r' pre' e1 e2 e3
      cases r' with
      | nil => rw [e1, e2] at h; simp at h; omega
      | cons y r' =>
        have d1 : rd a (pre.length : Int) = x := by rw [e1]; exact rdI _ _ _
        have d2 : rd b (pre.length : Int) = y := by rw [e2, e3]; exact rdI _ _ _
        have hs := ih (pre ++ [x]) r' (pre' ++ [y]) (by rw [e1]; simp) (by rw [e2]; simp) (by simp [e3])
        refine Ev.step (fun m => notaryref06_Way.l0.eq_2 ..) (LEv.pos (by rw [e1]; exact lenlt _ _ _) (LEv.pos (by omega) (LEv.pos (by rw [e2, e3]; exact lenlt _ _ _) ?_)))
        rw [d1, d2, up1 _ (by rw [e1] at ha; simp at ha; omega), ← len1 pre x]
        by_cases hxy : x = y
        · exact LEv.pos hxy (LEv.val (by simp [hxy]) hs)
        · exact LEv.neg hxy (LEv.fin (by simp [hxy]))
  exact Ev.congr (fun m => notaryref06_Way.f.eq_1 ..) (LEv.pos (by omega) (key a [] b [] rfl rfl rfl))
theorem below_ev (a b : List Int) (ha : a.length ≤ 100) (hb : b.length ≤ 100) : Ev (fun m => notaryref06_Below.f m a b) (decide (b <+: a)) := by
  by_cases h : (a.length : Int) ≥ (b.length : Int)
  · refine Ev.congr (fun m => notaryref06_Below.f.eq_1 ..) (LEv.pos h (LEv.pos (by omega) (LEv.pos (by omega) ?_)))
    rw [Int.toNat_natCast]
    refine LEv.bd _ (way_ev (a.take b.length) b (by simp <;> omega) (by simp <;> omega)) (LEv.fin ?_)
    rw [decide_eq_decide, List.prefix_iff_eq_take]
    exact eq_comm
  · exact Ev.congr (fun m => notaryref06_Below.f.eq_1 ..) (LEv.neg h (LEv.fin (by symm; rw [decide_eq_false_iff_not]; intro hh; have := hh.length_le; omega)))
theorem refat : ∀ (p : List Int) (t : T), notaryref06_At.f p t = atS p t
  | [], t => rfl
  | i :: ps, t => by rw [notaryref06_At.f, atS, refat ps]
/-! ### sizes and depths -/
def mxs : List Nat → Nat
  | [] => 0
  | a :: l => max a (mxs l)
def dep (t : T) : Nat := 1 + mxs (t.f3.attach.map fun y => dep y.1)
termination_by SizeOf.sizeOf t
decreasing_by exact lt_of y.2
theorem dep_eq (t : T) : dep t = 1 + mxs (t.f3.map dep) := by rw [dep, List.attach_map_val (f := dep)]
theorem dep_small {t : T} : ∀ {n}, Small n t → dep t ≤ n := by
  induction t using ind with
  | h t ih =>
  intro n h
  obtain ⟨k, rfl⟩ := h.pos
  rw [dep_eq]
  have : ∀ l : List T, (∀ y ∈ l, y ∈ t.f3) → mxs (l.map dep) ≤ k := by
    intro l
    induction l with
    | nil => intro _; exact Nat.zero_le _
    | cons y l ih2 =>
      intro hl
      have h1 := ih y (hl y List.mem_cons_self) (h.sub (hl y List.mem_cons_self))
      have h2 := ih2 (fun z hz => hl z (List.mem_cons_of_mem _ hz))
      simp only [List.map_cons, mxs]
      omega
  have := this t.f3 (fun _ h => h)
  omega
theorem walk_ev (t : T) : ∀ (n : Nat) (p : List Int) (s : Int × Int), Small n t → p.length + n ≤ 1000000 → 0 ≤ s.1 → s.1 + (sz t : Int) ≤ 1000000000 → 0 ≤ s.2 → s.2 ≤ 1000000 → Ev (fun m => term_walk.f term_meter.see m t p s) (s.1 + (sz t : Int), max s.2 ((p.length + dep t : Nat) : Int)) := by
  induction t using ind with
  | h t ih =>
  intro n p s hS hp h0 h1 h2 h3
  obtain ⟨k, rfl⟩ := hS.pos
  have hz := sz_eq t
  have hd := dep_eq t
  have key : ∀ (l : List T) (i : Int) (s : Int × Int), (∀ y ∈ l, y ∈ t.f3) → 0 ≤ s.1 → s.1 + ((l.map sz).sum : Nat) ≤ 1000000000 → ((p.length + 1 : Nat) : Int) ≤ s.2 → s.2 ≤ 1000000 →
      Ev (fun m => term_walk.all (fun i x s' => term_walk.f term_meter.see m x (p ++ [i]) s') l i s) (s.1 + ((l.map sz).sum : Nat), max s.2 ((p.length + 1 + mxs (l.map dep) : Nat) : Int)) := by
    intro l
    induction l with
    | nil => exact fun i s hl g0 g1 g2 g3 => LEv.fin (Prod.ext (by simp) (by simp only [List.map_nil, mxs]; omega))
    | cons y l ih2 =>
      intro i s hl g0 g1 g2 g3
      simp only [List.map_cons, List.sum_cons, mxs] at g1 ⊢
      have hy := hl y List.mem_cons_self
      have hSy := hS.sub hy
      have hdy := dep_small hSy
      have hlen : (p ++ [i]).length = p.length + 1 := by simp
      have a1 := ih y hy k (p ++ [i]) s hSy (by rw [hlen]; omega) g0 (by omega) (by omega) g3
      rw [hlen] at a1
      have a2 := ih2 (i + 1) (s.1 + (sz y : Int), max s.2 ((p.length + 1 + dep y : Nat) : Int)) (fun z hz => hl z (List.mem_cons_of_mem _ hz)) (by simp only; omega) (by simp only; omega) (by simp only; omega) (by simp only; omega)
      refine LEv.bd _ a1 (LEv.val (Prod.ext ?_ ?_) a2)
      · simp only; omega
      · simp only; omega
  have hsee : term_meter.see s p = some (s.1 + 1, max s.2 ((p.length + 1 : Nat) : Int)) := by
    unfold term_meter.see
    rw [LEv.w64 _ (by omega) (by omega), LEv.w64 _ (by omega) (by omega)]
    rfl
  have hk := key t.f3 0 (s.1 + 1, max s.2 ((p.length + 1 : Nat) : Int)) (fun _ h => h) (by simp only; omega) (by simp only; omega) (by simp only; omega) (by simp only; omega)
  refine Ev.step (fun m => term_walk.f.eq_2 ..) (LEv.pos (by omega) (LEv.eqb hsee (LEv.val (Prod.ext ?_ ?_) hk)))
  · simp only; omega
  · simp only; omega
theorem size_ev (t : T) (n : Nat) (hS : Small n t) (hn : n ≤ 1000) (hz : sz t ≤ 1000000) : Ev (fun m => term_Size.f m t.f0 t.f1 t.f2 t.f3 t.f4 t.f5) (sz t : Int) := by
  have h := walk_ev t n [] (0, 0) hS (by simp <;> omega) (by simp) (by simp only; omega) (by simp) (by simp)
  refine Ev.congr (fun m => term_Size.f.eq_1 ..) ?_
  cases t
  exact LEv.bd _ h (LEv.fin (by simp))
end Go.Proofs.Ytppeaofdohghgaa.LTerm
