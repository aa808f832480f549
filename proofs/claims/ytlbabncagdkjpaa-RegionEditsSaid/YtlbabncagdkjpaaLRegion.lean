/- The one region of two texts. -/
import Derived.Test.YtlbabncagdkjpaaLText
import Derived.Test.YtlbabncagdkjpaaPAllx2
import Derived.Test.YtlbabncagdkjpaaPAllx3
namespace Go.Proofs.Ytlbabncagdkjpaa.LRegion
open Go.RowKit Go.Proofs.Ytlbabncagdkjpaa.LText Go.Proofs.Ytlbabncagdkjpaa.PAll Go.Proofs.YtlbabncagdkjpaaW.PrintWords Go.Proofs.YtlbabncagdkjpaaW.PrintLast Go.Proofs.YtlbabncagdkjpaaW.PrintMore
set_option linter.unusedVariables false
set_option linter.unusedSimpArgs false
abbrev Rg := S29
/-- how far something holds -/
theorem al_is (h : Int → Bool) : ∀ (n i : Nat), (∀ j, i ≤ j → j < region_One.al h n i → h (j : Int) = true) ∧ (region_One.al h n i < i + n → h ((region_One.al h n i : Nat) : Int) = false)
  | 0, i => ⟨fun j h1 h2 => by simp [region_One.al] at h2; omega, fun hh => by simp [region_One.al] at hh⟩
  | n + 1, i => by
    have ih := al_is h n (i + 1)
    by_cases c : h (i : Int) = true
    · have e : region_One.al h (n + 1) i = region_One.al h n (i + 1) := by simp only [region_One.al]; rw [if_pos c]
      rw [e]
      refine ⟨fun j h1 h2 => ?_, fun hh => ih.2 (by omega)⟩
      by_cases hj : j = i
      · rw [hj]; exact c
      · exact ih.1 j (by omega) h2
    · have e : region_One.al h (n + 1) i = i := by simp only [region_One.al]; rw [if_neg c]
      rw [e]
      exact ⟨fun j h1 h2 => by omega, fun _ => by simpa using c⟩
theorem h1_is (p q : ByteArray) (i : Nat) : region_One.h1 p q (i : Int) = true ↔ bt p (i : Int) = bt q (i : Int) := by simp [region_One.h1]
theorem h2_is (p q : ByteArray) (i : Nat) : region_One.h2 p q (i : Int) = true ↔ bt p ((p.size : Int) - 1 - i) = bt q ((q.size : Int) - 1 - i) := by simp [region_One.h2]
/-- the reference's second loop -/
theorem one_l1 (p q : ByteArray) (f : Nat) (hp : p.size ≤ 140737488351232) (hq : q.size ≤ 140737488351232) (hfp : f ≤ p.size) (hfq : f ≤ q.size) : ∀ (n k : Nat), n + k = region_One.n p q - f →
    Ev (fun m => notaryref38_One.l1 m p q (f : Int) ((p.size : Int) - k) ((q.size : Int) - k)) [(⟨f, (p.size : Int) - (region_One.al (region_One.h2 p q) n k : Nat), f, (q.size : Int) - (region_One.al (region_One.h2 p q) n k : Nat)⟩ : Rg)] := by
  intro n
  induction n with
  | zero =>
    intro k hk
    refine Ev.step (f := fun _ => some [(⟨f, (p.size : Int) - k, f, (q.size : Int) - k⟩ : Rg)]) (fun m => ?_) (Ev.now _)
    have : (p.size : Int) - k ≤ f ∨ (q.size : Int) - k ≤ f := by unfold region_One.n at hk; omega
    simp only [notaryref38_One.l1]
    by_cases c : (p.size : Int) - k > f
    · rw [if_pos c, if_neg (by omega)]
    · rw [if_neg c]
  | succ n ih =>
    intro k hk
    have hk2 : k < p.size - f ∧ k < q.size - f := by unfold region_One.n at hk; omega
    have ea : wrap64 ((p.size : Int) - k - 1) = (p.size : Int) - 1 - k := by rw [w64 _ (by omega) (by omega)]; omega
    have eb : wrap64 ((q.size : Int) - k - 1) = (q.size : Int) - 1 - k := by rw [w64 _ (by omega) (by omega)]; omega
    by_cases c : region_One.h2 p q (k : Int) = true
    · have e : region_One.al (region_One.h2 p q) (n + 1) k = region_One.al (region_One.h2 p q) n (k + 1) := by simp only [region_One.al]; rw [if_pos c]
      rw [e]
      refine Ev.step (f := fun m => notaryref38_One.l1 m p q (f : Int) ((p.size : Int) - ((k + 1 : Nat) : Int)) ((q.size : Int) - ((k + 1 : Nat) : Int))) (fun m => ?_) (ih (k + 1) (by omega))
      simp only [notaryref38_One.l1]
      rw [ea, eb, if_pos (by omega), if_pos (by omega), if_pos (by omega), if_pos (by omega), if_pos (by omega), if_pos (by omega), if_pos ((h2_is p q k).1 c)]
      congr 1 <;> omega
    · have e : region_One.al (region_One.h2 p q) (n + 1) k = k := by simp only [region_One.al]; rw [if_neg c]
      rw [e]
      refine Ev.step (f := fun _ => some [(⟨f, (p.size : Int) - k, f, (q.size : Int) - k⟩ : Rg)]) (fun m => ?_) (Ev.now _)
      simp only [notaryref38_One.l1]
      rw [ea, eb, if_pos (by omega), if_pos (by omega), if_pos (by omega), if_pos (by omega), if_pos (by omega), if_pos (by omega), if_neg (fun hh => c ((h2_is p q k).2 hh))]
theorem one_l0 (p q : ByteArray) (hp : p.size ≤ 140737488351232) (hq : q.size ≤ 140737488351232) : ∀ (n i : Nat), n + i = region_One.n p q → ∀ R, Ev (fun m => notaryref38_One.j1 m p q ((region_One.al (region_One.h1 p q) n i : Nat) : Int)) R →
    Ev (fun m => notaryref38_One.l0 m p q (i : Int)) R := by
  intro n
  induction n with
  | zero =>
    intro i hi R hR
    have : (p.size : Int) ≤ i ∨ (q.size : Int) ≤ i := by unfold region_One.n at hi; omega
    refine Ev.step (f := fun m => notaryref38_One.j1 m p q (i : Int)) (fun m => ?_) hR
    simp only [notaryref38_One.l0]
    by_cases c : (i : Int) < (p.size : Int)
    · rw [if_pos c, if_neg (by omega)]
    · rw [if_neg c]
  | succ n ih =>
    intro i hi R hR
    have hi2 : i < p.size ∧ i < q.size := by unfold region_One.n at hi; omega
    have ea : wrap64 ((i : Int) + 1) = ((i + 1 : Nat) : Int) := by rw [w64 _ (by omega) (by omega)]; omega
    by_cases c : region_One.h1 p q (i : Int) = true
    · have e : region_One.al (region_One.h1 p q) (n + 1) i = region_One.al (region_One.h1 p q) n (i + 1) := by simp only [region_One.al]; rw [if_pos c]
      rw [e] at hR
      refine Ev.step (f := fun m => notaryref38_One.l0 m p q ((i + 1 : Nat) : Int)) (fun m => ?_) (ih (i + 1) (by omega) R hR)
      simp only [notaryref38_One.l0]
      rw [if_pos (by omega), if_pos (by omega), if_pos (by omega), if_pos ((h1_is p q i).1 c), ea]
    · have e : region_One.al (region_One.h1 p q) (n + 1) i = i := by simp only [region_One.al]; rw [if_neg c]
      rw [e] at hR
      refine Ev.step (f := fun m => notaryref38_One.j1 m p q (i : Int)) (fun m => ?_) hR
      simp only [notaryref38_One.l0]
      rw [if_pos (by omega), if_pos (by omega), if_pos (by omega), if_neg (fun hh => c ((h1_is p q i).2 hh))]
theorem one_ev (p q : ByteArray) (hp : p.size ≤ 140737488351232) (hq : q.size ≤ 140737488351232) : ∃ l, region_One.f p q = some l ∧ Ev (fun m => notaryref38_One.f m p q) l ∧
    ((p.toList = q.toList ∧ l = []) ∨ (p.toList ≠ q.toList ∧ l = [(⟨region_One.from_ p q, (p.size : Int) - region_One.back p q, region_One.from_ p q, (q.size : Int) - region_One.back p q⟩ : Rg)])) := by
  by_cases h : p.toList = q.toList
  · refine ⟨[], by unfold region_One.f; rw [if_pos h], ?_, .inl ⟨h, rfl⟩⟩
    exact Ev.congr (f := fun _ => some []) (fun m => by unfold notaryref38_One.f; rw [if_pos h]) (Ev.now _)
  · refine ⟨_, by unfold region_One.f; rw [if_neg h, if_pos ⟨by omega, by omega⟩], ?_, .inr ⟨h, rfl⟩⟩
    refine Ev.congr (f := fun m => notaryref38_One.l0 m p q ((0 : Nat) : Int)) (fun m => by unfold notaryref38_One.f; rw [if_neg h]; rfl) ?_
    refine one_l0 p q hp hq (region_One.n p q) 0 rfl _ ?_
    have hf := region_One.al_le (region_One.h1 p q) (region_One.n p q) 0
    have hn : region_One.n p q ≤ p.size ∧ region_One.n p q ≤ q.size := by unfold region_One.n; omega
    have := one_l1 p q (region_One.from_ p q) hp hq (by unfold region_One.from_; omega) (by unfold region_One.from_; omega) (region_One.n p q - region_One.from_ p q) 0 rfl
    refine Ev.step (f := fun m => notaryref38_One.l1 m p q ((region_One.from_ p q : Nat) : Int) ((p.size : Int) - (0 : Nat)) ((q.size : Int) - (0 : Nat))) (fun m => ?_) this
    simp only [notaryref38_One.j1]
    congr 1 <;> simp
theorem check_nil (p q : ByteArray) (hp : p.size ≤ 140737488351232) (hq : q.size ≤ 140737488351232) : Ev (fun m => region_Check.f m p q []) (if p.toList = q.toList then 0 else 21) := by
  refine Ev.bind (a := true) (f := fun m t => if t = true then (region_Check.l0 m p q 0 0 [] ((List.length ([] : List Rg) : Nat) : Int) 0) else (some 13)) ?_ ?_
  · unfold region_fine.f
    refine Ev.step (f := fun _ => some true) (fun m => ?_) (Ev.now _)
    simp only [region_fine.l0]
    rw [if_neg (by simp)]
  · refine Ev.step (f := fun _ => some (if p.toList = q.toList then 0 else 21)) (fun m => ?_) (Ev.now _)
    rw [if_pos rfl]
    simp only [region_Check.l0]
    rw [if_neg (by simp), if_pos (by omega), if_pos (by omega), if_pos (by omega), if_pos (by omega)]
    simp only [ext_list, Int.toNat_zero, List.drop_zero]
    rw [List.take_of_length_le (by rw [len_list]; omega), List.take_of_length_le (by rw [len_list]; omega)]
    split <;> rfl
theorem check_one (p q : ByteArray) (hp : p.size ≤ 140737488351232) (hq : q.size ≤ 140737488351232) (a b c d : Nat) (hab : a ≤ b) (hb : b ≤ p.size) (hcd : c ≤ d) (hd : d ≤ q.size) :
    Ev (fun m => region_Check.f m p q [(⟨a, b, c, d⟩ : Rg)]) (if p.toList.take a = q.toList.take c then (if p.toList.drop b = q.toList.drop d then 0 else 21) else 21) := by
  have e1 : wrap64 ((0 : Int) + 1) = 1 := by rw [w64 _ (by omega) (by omega)]; rfl
  refine Ev.bind (a := true) (f := fun m t => if t = true then (region_Check.l0 m p q 0 0 [(⟨a, b, c, d⟩ : Rg)] ((List.length [(⟨a, b, c, d⟩ : Rg)] : Nat) : Int) 0) else (some 13)) ?_ ?_
  · unfold region_fine.f
    refine Ev.step (f := fun m => region_fine.l0 m p q (b : Int) (d : Int) [(⟨a, b, c, d⟩ : Rg)] ((List.length [(⟨a, b, c, d⟩ : Rg)] : Nat) : Int) 1) (fun m => ?_) ?_
    · simp only [region_fine.l0]
      rw [if_pos (by simp), if_pos (by simp), if_pos (by simp), e1]
      have r0 : rd_T29 [(⟨a, b, c, d⟩ : Rg)] 0 = ⟨a, b, c, d⟩ := rfl
      rw [r0]
      simp only [region_inside.f]
      rw [if_pos (by omega), if_pos (by omega), Option.bind_some, if_pos (by simp; omega), if_pos (by omega), if_pos (by omega), Option.bind_some, if_pos (by simp; omega)]
    · refine Ev.step (f := fun _ => some true) (fun m => ?_) (Ev.now _)
      simp only [region_fine.l0]
      rw [if_neg (by simp)]
  · refine Ev.step (f := fun m => if p.toList.take a = q.toList.take c then region_Check.l0 m p q (b : Int) (d : Int) [(⟨a, b, c, d⟩ : Rg)] ((List.length [(⟨a, b, c, d⟩ : Rg)] : Nat) : Int) 1 else some 21) (fun m => ?_) ?_
    · rw [if_pos rfl]
      simp only [region_Check.l0]
      rw [if_pos (by simp), if_pos (by simp), if_pos (by simp), e1]
      have r0 : rd_T29 [(⟨a, b, c, d⟩ : Rg)] 0 = ⟨a, b, c, d⟩ := rfl
      rw [r0]
      simp only []
      rw [if_pos (by omega), if_pos (by omega), if_pos (by omega), if_pos (by omega), if_pos (by omega), if_pos (by omega)]
      simp only [ext_list, Int.toNat_zero, Int.toNat_natCast, List.drop_zero]
    · by_cases hh : p.toList.take a = q.toList.take c
      · rw [if_pos hh]
        refine Ev.congr (f := fun m => region_Check.l0 m p q (b : Int) (d : Int) [(⟨a, b, c, d⟩ : Rg)] ((List.length [(⟨a, b, c, d⟩ : Rg)] : Nat) : Int) 1) (fun m => if_pos hh) ?_
        refine Ev.step (f := fun _ => some (if p.toList.drop b = q.toList.drop d then 0 else 21)) (fun m => ?_) (Ev.now _)
        simp only [region_Check.l0]
        rw [if_neg (by simp), if_pos (by omega), if_pos (by omega), if_pos (by omega), if_pos (by omega)]
        simp only [ext_list, Int.toNat_natCast]
        rw [List.take_of_length_le (by rw [len_list]; omega), List.take_of_length_le (by rw [len_list]; omega)]
        split <;> rfl
      · rw [if_neg hh]
        exact Ev.congr (f := fun _ => some 21) (fun m => if_neg hh) (Ev.now _)
theorem take_eq (p q : ByteArray) (f : Nat) (hp : f ≤ p.size) (hq : f ≤ q.size) : p.toList.take f = q.toList.take f ↔ ∀ j, j < f → bt p (j : Int) = bt q (j : Int) := by
  have lp := len_list p
  have lq := len_list q
  constructor
  · intro e j hj
    rw [bt_eq p q j j (by omega) (by omega)]
    have h1 : (p.toList.take f)[j]? = (q.toList.take f)[j]? := by rw [e]
    rw [List.getElem?_take_of_lt hj, List.getElem?_take_of_lt hj, List.getElem?_eq_getElem (by omega), List.getElem?_eq_getElem (by omega)] at h1
    exact Option.some.inj h1
  · intro h
    apply List.ext_getElem
    · rw [List.length_take, List.length_take]; omega
    · intro j h1 h2
      have hj : j < f := by rw [List.length_take] at h1; omega
      rw [List.getElem_take, List.getElem_take]
      exact (bt_eq p q j j (by omega) (by omega)).1 (h j hj)
theorem drop_eq (p q : ByteArray) (k : Nat) (hp : k ≤ p.size) (hq : k ≤ q.size) : p.toList.drop (p.size - k) = q.toList.drop (q.size - k) ↔ ∀ j, j < k → bt p ((p.size : Int) - 1 - j) = bt q ((q.size : Int) - 1 - j) := by
  have lp := len_list p
  have lq := len_list q
  constructor
  · intro e j hj
    rw [show (p.size : Int) - 1 - j = ((p.size - 1 - j : Nat) : Int) by omega, show (q.size : Int) - 1 - j = ((q.size - 1 - j : Nat) : Int) by omega]
    rw [bt_eq p q _ _ (by omega) (by omega)]
    have h1 : (p.toList.drop (p.size - k))[k - 1 - j]? = (q.toList.drop (q.size - k))[k - 1 - j]? := by rw [e]
    rw [List.getElem?_drop, List.getElem?_drop, List.getElem?_eq_getElem (by omega), List.getElem?_eq_getElem (by omega)] at h1
    have h2 := Option.some.inj h1
    simp only [show p.size - k + (k - 1 - j) = p.size - 1 - j by omega, show q.size - k + (k - 1 - j) = q.size - 1 - j by omega] at h2
    exact h2
  · intro h
    apply List.ext_getElem
    · rw [List.length_drop, List.length_drop]; omega
    · intro j h1 h2
      have hj : j < k := by rw [List.length_drop] at h1; omega
      rw [List.getElem_drop, List.getElem_drop]
      have := h (k - 1 - j) (by omega)
      rw [show (p.size : Int) - 1 - ((k - 1 - j : Nat) : Int) = ((p.size - k + j : Nat) : Int) by omega, show (q.size : Int) - 1 - ((k - 1 - j : Nat) : Int) = ((q.size - k + j : Nat) : Int) by omega] at this
      exact (bt_eq p q _ _ (by omega) (by omega)).1 this
theorem same_l0 (l : List Rg) (hl : l.length < 1000000) : ∀ (n i : Nat), n + i = l.length → Ev (fun m => notaryref11_Same.l0 m l l (i : Int)) true := by
  intro n
  induction n with
  | zero =>
    intro i hi
    refine Ev.step (f := fun _ => some true) (fun m => ?_) (Ev.now _)
    simp only [notaryref11_Same.l0]
    rw [if_neg (by omega)]
  | succ n ih =>
    intro i hi
    have e1 : wrap64 ((i : Int) + 1) = ((i + 1 : Nat) : Int) := by rw [w64 _ (by omega) (by omega)]; omega
    refine Ev.step (f := fun m => notaryref11_Same.l0 m l l ((i + 1 : Nat) : Int)) (fun m => ?_) (ih (i + 1) (by omega))
    simp only [notaryref11_Same.l0]
    rw [if_pos (by omega), if_pos (by omega), if_pos (by omega), if_neg (by simp), e1]
theorem same_ev (l : List Rg) (hl : l.length < 1000000) : Ev (fun m => notaryref11_Same.f m l l) true := by
  refine Ev.congr (f := fun m => notaryref11_Same.l0 m l l ((0 : Nat) : Int)) (fun m => ?_) (same_l0 l hl l.length 0 (by omega))
  simp [notaryref11_Same.f]
theorem awake_ev : Ev (fun m => notarylaw38_awake.f m) true := by
  have h1 : region_One.f (⟨#[97, 98]⟩ : ByteArray) (⟨#[97, 88, 98]⟩ : ByteArray) = some [(⟨1, 1, 1, 2⟩ : Rg)] := by
    unfold region_One.f
    rw [if_neg (by decide +kernel), if_pos (by decide)]
    have e1 : region_One.from_ (⟨#[97, 98]⟩ : ByteArray) (⟨#[97, 88, 98]⟩ : ByteArray) = 1 := by decide +kernel
    have e2 : region_One.back (⟨#[97, 98]⟩ : ByteArray) (⟨#[97, 88, 98]⟩ : ByteArray) = 1 := by decide +kernel
    rw [e1, e2]; rfl
  have h2 := check_nil (⟨#[97]⟩ : ByteArray) (⟨#[98]⟩ : ByteArray) (by decide) (by decide)
  rw [if_neg (by decide +kernel)] at h2
  unfold notarylaw38_awake.f
  refine Ev.congr (f := fun m => (region_Check.f m (⟨#[97]⟩ : ByteArray) (⟨#[98]⟩ : ByteArray) ([] : List Rg)).bind fun t126 => (some (t126 == 21))) (fun m => ?_) ?_
  · rw [h1, Option.bind_some]
    rw [if_pos (by rfl), if_pos (by decide), if_pos (by rfl)]
  · exact Ev.bind (f := fun m t => some (t == 21)) h2 (Ev.now _)
end Go.Proofs.Ytlbabncagdkjpaa.LRegion
