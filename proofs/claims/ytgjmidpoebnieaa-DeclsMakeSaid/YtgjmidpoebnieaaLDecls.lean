/- Declarations: where each one goes, terms made anew, and what both programs answer of them. -/
import Derived.Test.YtgjmidpoebnieaaLTerm
import Derived.Test.YtgjmidpoebnieaaPDmx3
import Derived.Test.YtgjmidpoebnieaaPDmx4
import Derived.Test.YtgjmidpoebnieaaPDmx6
import Derived.Test.YtgjmidpoebnieaaPDmx7
import Derived.Test.YtgjmidpoebnieaaPDmx8
import Derived.Test.YtgjmidpoebnieaaPDmx9
import Derived.Test.YtgjmidpoebnieaaPDmx10
import Derived.Test.YtgjmidpoebnieaaPDmx11
import Derived.Test.YtgjmidpoebnieaaPDmx12
import Derived.Test.YtgjmidpoebnieaaPDmx14
namespace Go.Proofs.Ytgjmidpoebnieaa.LDecls
open Go.RowKit Go.Proofs.Ytgjmidpoebnieaa.PDm Go.Proofs.YtgjmidpoebnieaaW.PrintWords Go.Proofs.YtgjmidpoebnieaaW.PrintLast Go.Proofs.YtgjmidpoebnieaaW.PrintMore
open LTerm (T Small Fine rdT up1 app1 len1 lenlt)
set_option linter.unusedVariables false
set_option linter.unusedSimpArgs false
theorem rdI (pre : List Int) (r : Int) (rest : List Int) : rd (pre ++ r :: rest) (pre.length : Int) = r := by
  unfold rd
  simp [List.getD_eq_getElem?_getD]
theorem rd_at (l : List Int) (k : Nat) (h : k < l.length) : rd l (k : Int) = l[k] := by
  unfold rd
  simp [List.getD_eq_getElem?_getD, List.getElem?_eq_getElem h]
/-! ### all but one -/
def elt (i : Int) (k : Nat) : Int := if (k : Int) < i then (k : Int) else if (k : Int) = i then -1 else wrap64 ((k : Int) - 1)
def lessR (i : Int) : Nat → Nat → List Int
  | _, 0 => []
  | k, r + 1 => elt i k :: lessR i (k + 1) r
theorem lessR_len (i : Int) : ∀ r k, (lessR i k r).length = r
  | 0, _ => rfl
  | r + 1, k => by simp [lessR, lessR_len i r]
def less (i : Int) (n : Nat) : List Int := lessR i 0 n
theorem less_len (i : Int) (n : Nat) : (less i n).length = n := lessR_len i n 0
theorem less_ref (i : Int) (n : Nat) (hn : n ≤ 400) : Ev (fun m => notaryref32_Less.f m i (n : Int)) (less i n) := by
  have key : ∀ (r : Nat) (pre : List Int), pre.length + r = n → Ev (fun m => notaryref32_Less.l0 m i (n : Int) pre (pre.length : Int)) (pre ++ lessR i pre.length r) := by
    intro r
    induction r with
    | zero => exact fun pre he => Ev.step (fun m => notaryref32_Less.l0.eq_2 ..) (LEv.neg (by omega) (LEv.fin (by simp [lessR])))
    | succ r ih =>
      intro pre he
      have h2 : ∀ x : Int, x = elt i pre.length → Ev (fun m => notaryref32_Less.l0 m i (n : Int) (pre ++ [x]) (wrap64 ((pre.length : Int) + 1))) (pre ++ lessR i pre.length (r + 1)) := fun x hx => by
        have h3 := ih (pre ++ [x]) (by simp; omega)
        rw [up1 _ (by omega), ← len1 pre x]
        rw [lessR, ← hx, app1]
        simpa using h3
      refine Ev.step (fun m => notaryref32_Less.l0.eq_2 ..) (LEv.pos (by omega) ?_)
      by_cases h1 : (pre.length : Int) < i
      · exact LEv.pos h1 (LEv.pos (by omega) (h2 _ (by rw [elt, if_pos h1])))
      · by_cases h4 : (pre.length : Int) = i
        · exact LEv.neg h1 (LEv.pos h4 (LEv.pos (by omega) (h2 _ (by rw [elt, if_neg h1, if_pos h4]))))
        · exact LEv.neg h1 (LEv.neg h4 (LEv.pos (by omega) (h2 _ (by rw [elt, if_neg h1, if_neg h4]))))
  exact Ev.congr (fun m => notaryref32_Less.f.eq_1 ..) (key n [] (by simp))
theorem less_own (i : Int) (n : Nat) (hn : n ≤ 400) : Ev (fun m => decls_without.f m i (n : Int)) (less i n) := by
  have key : ∀ (r : Nat) (pre : List Int), pre.length + r = n → Ev (fun m => decls_without.l0 m i (n : Int) (pre.length : Int) pre) (pre ++ lessR i pre.length r) := by
    intro r
    induction r with
    | zero => exact fun pre he => Ev.step (fun m => decls_without.l0.eq_2 ..) (LEv.neg (by omega) (LEv.fin (by simp [lessR])))
    | succ r ih =>
      intro pre he
      have h2 : ∀ x : Int, x = elt i pre.length → Ev (fun m => decls_without.l0 m i (n : Int) (wrap64 ((pre.length : Int) + 1)) (pre ++ [x])) (pre ++ lessR i pre.length (r + 1)) := fun x hx => by
        have h3 := ih (pre ++ [x]) (by simp; omega)
        rw [up1 _ (by omega), ← len1 pre x]
        rw [lessR, ← hx, app1]
        simpa using h3
      refine Ev.step (fun m => decls_without.l0.eq_2 ..) (LEv.pos (by omega) ?_)
      by_cases h1 : (pre.length : Int) < i
      · exact LEv.pos h1 (LEv.pos (by omega) (h2 _ (by rw [elt, if_pos h1])))
      · by_cases h4 : (pre.length : Int) = i
        · exact LEv.neg h1 (LEv.pos h4 (LEv.pos (by omega) (h2 _ (by rw [elt, if_neg h1, if_pos h4]))))
        · exact LEv.neg h1 (LEv.neg h4 (LEv.pos (by omega) (h2 _ (by rw [elt, if_neg h1, if_neg h4]))))
  exact Ev.congr (fun m => decls_without.f.eq_1 ..) (key n [] (by simp))
/-! ### the places by numbers -/
/-- the last place of k in a list that begins at place i; none: acc -/
def lastGo : List Int → Nat → Int → Int → Int
  | [], _, _, acc => acc
  | x :: xs, i, k, acc => lastGo xs (i + 1) k (if x = k then (i : Int) else acc)
theorem lastGo_snoc (k : Int) (x : Int) : ∀ (l : List Int) (i : Nat) (acc : Int), lastGo (l ++ [x]) i k acc = if x = k then ((i + l.length : Nat) : Int) else lastGo l i k acc
  | [], i, acc => by simp [lastGo]
  | y :: l, i, acc => by
    rw [List.cons_append, lastGo, lastGo_snoc k x l, lastGo]
    congr 1
    simp
    omega
theorem lastGo_nonneg (k : Int) : ∀ (l : List Int) (i : Nat) (acc : Int), 0 ≤ lastGo l i k acc ↔ (0 ≤ acc ∨ k ∈ l)
  | [], i, acc => by simp [lastGo]
  | x :: l, i, acc => by
    rw [lastGo, lastGo_nonneg k l]
    by_cases h : x = k
    · simp [h]
    · have : ¬ k = x := fun e => h e.symm
      simp [h, this]
theorem lastGo_ge (k : Int) : ∀ (l : List Int) (i : Nat) (acc : Int), -1 ≤ acc → -1 ≤ lastGo l i k acc
  | [], i, acc, h => h
  | x :: l, i, acc, h => by
    rw [lastGo]
    refine lastGo_ge k l _ _ ?_
    split <;> omega
def lastI (l : List Int) (k : Nat) : Int := lastGo l 0 (k : Int) (-1)
/-- how many of the first n numbers stand in a list -/
def cov : Nat → List Int → Nat
  | 0, _ => 0
  | n + 1, l => cov n l + if (n : Int) ∈ l then 1 else 0
theorem cov_le : ∀ n l, cov n l ≤ n
  | 0, l => Nat.le_refl _
  | n + 1, l => by have := cov_le n l; rw [cov]; split <;> omega
theorem cov_full : ∀ n l, cov n l = n ↔ ∀ k, k < n → (k : Int) ∈ l
  | 0, l => by simp [cov]
  | n + 1, l => by
    have h1 := cov_le n l
    have h2 := cov_full n l
    rw [cov]
    constructor
    · intro h k hk
      have hn : (n : Int) ∈ l := by
        by_cases hx : (n : Int) ∈ l
        · exact hx
        · rw [if_neg hx] at h; omega
      rw [if_pos hn] at h
      rcases Nat.lt_or_ge k n with h3 | h3
      · exact h2.1 (by omega) k h3
      · obtain rfl : k = n := by omega
        exact hn
    · intro h
      rw [if_pos (h n (by omega)), h2.2 (fun k hk => h k (by omega))]
theorem cov_snoc (x : Int) : ∀ n l, cov n (l ++ [x]) = cov n l + if 0 ≤ x ∧ x < (n : Int) ∧ x ∉ l then 1 else 0
  | 0, l => by rw [cov, cov, if_neg (by omega)]
  | n + 1, l => by
    rw [cov, cov, cov_snoc x n l]
    by_cases hx : x = (n : Int)
    · subst hx
      rw [if_neg (show ¬ (0 ≤ (n : Int) ∧ (n : Int) < (n : Int) ∧ (n : Int) ∉ l) by omega), if_pos (show (n : Int) ∈ l ++ [(n : Int)] by simp)]
      by_cases hm : (n : Int) ∈ l
      · rw [if_pos hm, if_neg (fun h => h.2.2 hm)]
      · rw [if_neg hm, if_pos ⟨by omega, by omega, hm⟩]
    · have e1 : ((n : Int) ∈ l ++ [x]) ↔ (n : Int) ∈ l := by
        simp
        intro h
        exact absurd h.symm hx
      have e2 : (0 ≤ x ∧ x < (n : Int) ∧ x ∉ l) ↔ (0 ≤ x ∧ x < ((n + 1 : Nat) : Int) ∧ x ∉ l) := by
        constructor
        · exact fun h => ⟨h.1, by omega, h.2.2⟩
        · exact fun h => ⟨h.1, by have := h.2.1; omega, h.2.2⟩
      by_cases ha : (n : Int) ∈ l
      · rw [if_pos (e1.2 ha), if_pos ha]
        by_cases hb : (0 ≤ x ∧ x < (n : Int) ∧ x ∉ l)
        · rw [if_pos hb, if_pos (e2.1 hb)]
        · rw [if_neg hb, if_neg (fun h => hb (e2.2 h))]
      · rw [if_neg (fun h => ha (e1.1 h)), if_neg ha]
        by_cases hb : (0 ≤ x ∧ x < (n : Int) ∧ x ∉ l)
        · rw [if_pos hb, if_pos (e2.1 hb)]
        · rw [if_neg hb, if_neg (fun h => hb (e2.2 h))]
theorem cov_app (n : Nat) (l : List Int) : ∀ r, cov n (l ++ r) ≤ cov n l + r.length := by
  intro r
  induction r generalizing l with
  | nil => simp
  | cons x r ih =>
    have h1 := ih (l ++ [x])
    have h2 := cov_snoc x n l
    rw [List.append_assoc] at h1
    simp only [List.singleton_append, List.length_cons] at h1 ⊢
    split at h2 <;> omega
/-- where each of n goes by the numbers ahead -/
def places (l : List Int) (n : Nat) : List Int := (List.range n).map (lastI l)
theorem places_len (l : List Int) (n : Nat) : (places l n).length = n := by simp [places]
theorem places_nil (n : Nat) : places [] n = List.replicate n (-1) := by
  apply List.ext_getElem
  · simp [places]
  · intro k h1 h2
    simp [places, lastI, lastGo]
theorem places_rd (l : List Int) (n k : Nat) (h : k < n) : rd (places l n) (k : Int) = lastI l k := by
  rw [rd_at _ _ (by rw [places_len]; exact h)]
  simp [places]
theorem places_set (l : List Int) (n x : Nat) (h : x < n) : (places l n).set x (l.length : Int) = places (l ++ [(x : Int)]) n := by
  apply List.ext_getElem
  · simp [places]
  · intro k h1 h2
    rw [List.getElem_set]
    simp only [places, List.getElem_map, List.getElem_range, lastI]
    rw [lastGo_snoc]
    by_cases hk : x = k
    · rw [if_pos hk, if_pos (by omega)]; first | done | simp
    · rw [if_neg hk, if_neg (by omega)]
/-- the numbers are an order of n -/
def Order (l : List Int) (n : Nat) : Prop := l.length = n ∧ cov n l = n
/-- the program's answer -/
theorem inv_own (l : List Int) (n : Nat) (hn : n ≤ 400) (hl : l.length ≤ 400) : ∃ o : List Int, ∃ b : Bool, Ev (fun m => decls_inverse.f m l (n : Int)) (o, b) ∧ (b = true ↔ Order l n) ∧ (b = true → o = places l n) := by
  have hrep : slices_Repeat_int_int.f [(-1)] (n : Int) = some (places [] n) := by
    unfold slices_Repeat_int_int.f
    rw [if_pos ⟨rfl, by omega, by omega⟩, places_nil]
    rfl
  have key : ∀ (rest pre : List Int), l = pre ++ rest → l.length = n → cov n pre = pre.length → ∃ o : List Int, ∃ b : Bool, Ev (fun m => decls_inverse.l0 m (n : Int) l (l.length : Int) (pre.length : Int) (places pre n)) (o, b) ∧ (b = true ↔ Order l n) ∧ (b = true → o = places l n) := by
    intro rest
    induction rest with
    | nil =>
      intro pre he hln hc
      obtain rfl : l = pre := by simpa using he
      exact ⟨places l n, true, Ev.step (fun m => decls_inverse.l0.eq_2 ..) (LEv.neg (by omega) (Ev.now _)), by simp [Order, hln, hc], fun _ => rfl⟩
    | cons x rest ih =>
      intro pre he hln hc
      have e1 : rd l (pre.length : Int) = x := by rw [he]; exact rdI _ _ _
      have h3 : (pre.length : Int) < (l.length : Int) := by rw [he]; exact lenlt _ _ _
      have hpl : pre.length < 400 := by omega
      have bad : ¬ (0 ≤ x ∧ x < (n : Int) ∧ x ∉ pre) → ¬ Order l n := fun hb ho => by
        have h5 := cov_app n (pre ++ [x]) rest
        have h6 := cov_snoc x n pre
        rw [if_neg hb] at h6
        have h7 : pre ++ [x] ++ rest = l := by rw [he]; simp
        rw [h7] at h5
        have h8 := ho.2
        have h9 : l.length = pre.length + (rest.length + 1) := by rw [he]; simp
        omega
      have fin : ¬ (0 ≤ x ∧ x < (n : Int) ∧ x ∉ pre) → ∃ o : List Int, ∃ b : Bool, (places pre n, false) = (o, b) ∧ (b = true ↔ Order l n) ∧ (b = true → o = places l n) := fun hb => ⟨_, _, rfl, by simp [bad hb], by simp⟩
      have st : ∀ {f : Nat → Option (List Int × Bool)} {r}, Ev f r → (∀ m, decls_inverse.l0 (m + 1) (n : Int) l (l.length : Int) (pre.length : Int) (places pre n) = (if (pre.length : Int) < (l.length : Int) then f m else some (places pre n, true))) → Ev (fun m => decls_inverse.l0 m (n : Int) l (l.length : Int) (pre.length : Int) (places pre n)) r := fun h he => Ev.step he (LEv.pos h3 h)
      by_cases x0 : x < 0
      · obtain ⟨o, b, e, h5⟩ := fin (by omega)
        refine ⟨o, b, e ▸ ?_, h5⟩
        refine Ev.step (fun m => decls_inverse.l0.eq_2 ..) (LEv.pos h3 (LEv.pos (by omega) (LEv.pos h3 ?_)))
        rw [e1]
        exact LEv.pos x0 (Ev.now _)
      by_cases x1 : x ≥ (n : Int)
      · obtain ⟨o, b, e, h5⟩ := fin (by omega)
        refine ⟨o, b, e ▸ ?_, h5⟩
        refine Ev.step (fun m => decls_inverse.l0.eq_2 ..) (LEv.pos h3 (LEv.pos (by omega) (LEv.pos h3 ?_)))
        rw [e1]
        exact LEv.neg x0 (LEv.pos x1 (Ev.now _))
      obtain ⟨y, rfl⟩ := Int.eq_ofNat_of_zero_le (show 0 ≤ x by omega)
      have hyn : y < n := by omega
      have e2 : rd (places pre n) (y : Int) = lastI pre y := places_rd pre n y hyn
      have hpn : ((places pre n).length : Int) = (n : Int) := by rw [places_len]
      by_cases x2 : (y : Int) ∈ pre
      · obtain ⟨o, b, e, h5⟩ := fin (by simp [x2])
        refine ⟨o, b, e ▸ ?_, h5⟩
        refine Ev.step (fun m => decls_inverse.l0.eq_2 ..) (LEv.pos h3 (LEv.pos (by omega) (LEv.pos h3 ?_)))
        rw [e1, e2, hpn]
        refine LEv.neg x0 (LEv.neg x1 (LEv.pos (by omega) (LEv.pos (by omega) (LEv.pos ?_ (Ev.now _)))))
        exact (lastGo_nonneg _ _ _ _).2 (.inr x2)
      · have hc2 : cov n (pre ++ [(y : Int)]) = (pre ++ [(y : Int)]).length := by
          rw [cov_snoc, if_pos ⟨by omega, by omega, x2⟩, hc]; simp
        obtain ⟨o, b, h5, h6⟩ := ih (pre ++ [(y : Int)]) (by rw [he]; simp) hln hc2
        refine ⟨o, b, ?_, h6⟩
        refine Ev.step (fun m => decls_inverse.l0.eq_2 ..) (LEv.pos h3 (LEv.pos (by omega) (LEv.pos h3 ?_)))
        rw [e1, e2, hpn]
        refine LEv.neg x0 (LEv.neg x1 (LEv.pos (by omega) (LEv.pos (by omega) (LEv.neg ?_ ?_))))
        · intro h7
          rcases (lastGo_nonneg _ _ _ _).1 h7 with h8 | h8
          · omega
          · exact x2 h8
        · rw [Int.toNat_natCast, places_set pre n y hyn, up1 _ (by omega), ← len1 pre (y : Int)]
          exact h5
  by_cases hln : l.length = n
  · obtain ⟨o, b, h5, h6⟩ := key l [] rfl hln (by induction n with | zero => rfl | succ n ih => clear ih hrep; exact (by
      have : ∀ n, cov n [] = 0 := fun n => by induction n with | zero => rfl | succ n ih => rw [cov, ih]; simp
      exact this _))
    exact ⟨o, b, Ev.congr (fun m => decls_inverse.f.eq_1 ..) (LEv.eqb hrep (LEv.pos (by omega) h5)), h6⟩
  · exact ⟨places [] n, false, Ev.congr (fun m => decls_inverse.f.eq_1 ..) (LEv.eqb hrep (LEv.neg (by omega) (Ev.now _))), by simp [Order, hln], by simp⟩
/-- the reference's answer -/
theorem to_ref (l : List Int) (n : Nat) (hn : n ≤ 400) (hl : l.length ≤ 400) : ∃ o : List Int, ∃ b : Bool, Ev (fun m => notaryref32_To.f m l (n : Int)) (o, b) ∧ (b = true ↔ Order l n) ∧ (b = true → o = places l n) := by
  by_cases hln : l.length = n
  case neg => exact ⟨[], false, Ev.congr (fun m => notaryref32_To.f.eq_1 ..) (LEv.neg (by omega) (Ev.now _)), by simp [Order, hln], by simp⟩
  have inner : ∀ (rest pre : List Int) (acc : Int) (out : List Int) (r : List Int × Bool) (k : Nat), l = pre ++ rest →
      Ev (fun m => if lastGo rest pre.length (k : Int) acc < 0 then some ([], false) else if out.length < 17592186044416 then notaryref32_To.l0 m l (n : Int) (out ++ [lastGo rest pre.length (k : Int) acc]) (wrap64 ((k : Int) + 1)) else none) r →
      Ev (fun m => notaryref32_To.l1 m l (n : Int) out (k : Int) acc (pre.length : Int)) r := by
    intro rest
    induction rest with
    | nil =>
      intro pre acc out r k he h
      refine Ev.step (fun m => notaryref32_To.l1.eq_2 ..) (LEv.neg ?_ h)
      rw [he] at hln
      simp at hln
      omega
    | cons x rest ih =>
      intro pre acc out r k he h
      have e1 : rd l (pre.length : Int) = x := by rw [he]; exact rdI _ _ _
      have h3 : (pre.length : Int) < (l.length : Int) := by rw [he]; exact lenlt _ _ _
      have h2 : Ev (fun m => notaryref32_To.l1 m l (n : Int) out (k : Int) (if x = (k : Int) then (pre.length : Int) else acc) (wrap64 ((pre.length : Int) + 1))) r := by
        rw [up1 _ (by omega), ← len1 pre x]
        refine ih (pre ++ [x]) _ out r k (by rw [he]; simp) ?_
        have h9 : (pre ++ [x]).length = pre.length + 1 := by simp
        rw [h9]
        exact h
      refine Ev.step (fun m => notaryref32_To.l1.eq_2 ..) (LEv.pos (by omega) (LEv.pos (by omega) (LEv.pos h3 ?_)))
      rw [e1]
      by_cases hx : x = (k : Int)
      · rw [if_pos hx] at h2
        exact LEv.pos hx h2
      · rw [if_neg hx] at h2
        exact LEv.neg hx h2
  have outer : ∀ (r k : Nat), k + r = n → (∀ i, i < k → (i : Int) ∈ l) → ∃ o : List Int, ∃ b : Bool, Ev (fun m => notaryref32_To.l0 m l (n : Int) (places l k) (k : Int)) (o, b) ∧ (b = true ↔ Order l n) ∧ (b = true → o = places l n) := by
    intro r
    induction r with
    | zero =>
      intro k hk hall
      obtain rfl : k = n := by omega
      have : cov k l = k := (cov_full k l).2 hall
      exact ⟨places l k, true, Ev.step (fun m => notaryref32_To.l0.eq_2 ..) (LEv.neg (by omega) (Ev.now _)), by simp [Order, hln, this], fun _ => rfl⟩
    | succ r ih =>
      intro k hk hall
      by_cases hm : (k : Int) ∈ l
      · have h5 : 0 ≤ lastI l k := (lastGo_nonneg _ _ _ _).2 (.inr hm)
        obtain ⟨o, b, h6, h7⟩ := ih (k + 1) (by omega) (fun i hi => by
          rcases Nat.lt_or_ge i k with h | h
          · exact hall i h
          · obtain rfl : i = k := by omega
            exact hm)
        have h8 : places l (k + 1) = places l k ++ [lastI l k] := by simp [places, List.range_succ]
        refine ⟨o, b, Ev.step (fun m => notaryref32_To.l0.eq_2 ..) (LEv.pos (by omega) (inner l [] (-1) _ _ k rfl ?_)), h7⟩
        refine LEv.neg (show ¬ lastI l k < 0 by omega) (LEv.pos (by rw [places_len]; omega) ?_)
        rw [up1 _ (by omega)]
        rw [h8] at h6
        exact h6
      · have h5 : ¬ 0 ≤ lastI l k := fun h => by
          rcases (lastGo_nonneg _ _ _ _).1 h with h | h
          · omega
          · exact hm h
        refine ⟨[], false, Ev.step (fun m => notaryref32_To.l0.eq_2 ..) (LEv.pos (by omega) (inner l [] (-1) _ _ k rfl (LEv.pos (show lastI l k < 0 by omega) (Ev.now _)))), ?_, by simp⟩
        constructor
        · intro h; cases h
        · intro h
          exact absurd ((cov_full n l).1 h.2 k (by omega)) hm
  obtain ⟨o, b, h1, h2⟩ := outer n 0 (by omega) (fun i hi => by omega)
  exact ⟨o, b, Ev.congr (fun m => notaryref32_To.f.eq_1 ..) (LEv.pos (by omega) h1), h2⟩
/-! ### what a term names, and a term made anew -/
theorem named_both (x : T) : ∃ v, Ev (fun m => decls_named.f m x.f0 x.f1 x.f2 x.f3 x.f4 x.f5) v ∧ Ev (fun m => notaryref32_Named.f m x.f0 x.f1 x.f2 x.f3 x.f4 x.f5) v ∧ (0 ≤ v → x.f0 ≠ 13 → v = x.f1) := by
  have own : ∀ b, b = (x.f0 == 8 || x.f0 == 9 || x.f0 == 16 || x.f0 == 15 || x.f0 == 4) → Ev (fun m => decls_named.j0 m x.f0 b x.f0 x.f1 x.f2 x.f3 x.f4 x.f5) (if b = true then x.f1 else if x.f0 = 13 then (if x.f1 ≥ 0 then wrap64 (Int.tdiv x.f1 64) else -1) else -1) := fun b _ => by
    refine Ev.step (fun m => decls_named.j0.eq_2 ..) ?_
    cases b with
    | true => exact LEv.pos rfl (LEv.fin (by simp))
    | false =>
      refine LEv.neg (by decide) ?_
      by_cases h1 : x.f0 = 13
      · refine LEv.pos h1 ?_
        by_cases h2 : x.f1 ≥ 0
        · exact LEv.pos h2 (LEv.fin (by simp [h1, h2]))
        · exact LEv.neg h2 (LEv.fin (by simp [h1, h2]))
      · exact LEv.neg h1 (LEv.fin (by simp [h1]))
  have ref : ∀ b, b = (x.f0 == 8 || x.f0 == 9 || x.f0 == 16 || x.f0 == 15 || x.f0 == 4) → Ev (fun m => notaryref32_Named.j0 m b x.f0 x.f1 x.f2 x.f3 x.f4 x.f5) (if b = true then x.f1 else if x.f0 = 13 then (if x.f1 ≥ 0 then wrap64 (Int.tdiv x.f1 64) else -1) else -1) := fun b _ => by
    refine Ev.step (fun m => notaryref32_Named.j0.eq_2 ..) ?_
    cases b with
    | true => exact LEv.pos rfl (LEv.fin (by simp))
    | false =>
      refine LEv.neg (by decide) ?_
      by_cases h1 : x.f0 = 13
      · refine LEv.pos h1 ?_
        by_cases h2 : x.f1 ≥ 0
        · exact LEv.pos h2 (LEv.fin (by simp [h1, h2]))
        · exact LEv.neg h2 (LEv.fin (by simp [h1, h2]))
      · exact LEv.neg h1 (LEv.fin (by simp [h1]))
  obtain ⟨b, hb⟩ : ∃ b, b = (x.f0 == 8 || x.f0 == 9 || x.f0 == 16 || x.f0 == 15 || x.f0 == 4) := ⟨_, rfl⟩
  have h1 := own b hb
  have h2 := ref b hb
  refine ⟨if b = true then x.f1 else if x.f0 = 13 then (if x.f1 ≥ 0 then wrap64 (Int.tdiv x.f1 64) else -1) else -1, Ev.congr (fun m => decls_named.f.eq_1 ..) ?_, Ev.congr (fun m => notaryref32_Named.f.eq_1 ..) ?_, ?_⟩
  · refine LEv.ite (fun h => ?_) (fun h => LEv.ite (fun h => ?_) (fun h => LEv.ite (fun h => ?_) (fun h => LEv.ite (fun h => ?_) (fun h => ?_))))
    all_goals (first | (rw [show (x.f0 == 8) = b by rw [hb]; simp [*]]; exact h1) | (rw [show (x.f0 == 9) = b by rw [hb]; simp [*]]; exact h1) | (rw [show (x.f0 == 16) = b by rw [hb]; simp [*]]; exact h1) | (rw [show (x.f0 == 15) = b by rw [hb]; simp [*]]; exact h1) | (rw [show (x.f0 == 4) = b by rw [hb]; simp [*]]; exact h1))
  · refine LEv.ite (fun h => ?_) (fun h => LEv.ite (fun h => ?_) (fun h => LEv.ite (fun h => ?_) (fun h => LEv.ite (fun h => ?_) (fun h => ?_))))
    all_goals (first | ((have e : b = true := (by rw [hb]; simp [*]; done)); rw [e] at h2 ⊢; exact h2) | (rw [show (x.f0 == 4) = b by rw [hb]; simp [*]]; exact h2))
  · intro h0 h13
    cases b with
    | true => simp
    | false => rw [if_neg (by decide), if_neg h13] at h0; omega
theorem place_same (pl : List Int) (n : Int) : decls_order_place.f pl n = notaryref32_Place.f pl n := rfl
theorem place_some (pl : List Int) (n : Int) : ∃ p, decls_order_place.f pl n = some p := by
  unfold decls_order_place.f
  split
  · exact ⟨_, rfl⟩
  · split
    · exact ⟨_, rfl⟩
    · rw [if_pos (by omega), if_pos (by omega)]
      split <;> exact ⟨_, rfl⟩
end Go.Proofs.Ytgjmidpoebnieaa.LDecls
