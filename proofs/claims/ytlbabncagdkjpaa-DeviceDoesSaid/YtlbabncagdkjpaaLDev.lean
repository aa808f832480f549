/- The device, in plain words: the reference does the same. -/
import Derived.Test.YtlbabncagdkjpaaDDev2
import Derived.Test.YtlbabncagdkjpaaLEv
import Derived.Test.YtlbabncagdkjpaaPAllx11
import Derived.Test.YtlbabncagdkjpaaPAllx12
namespace Go.Proofs.Ytlbabncagdkjpaa.LDev
open Go.RowKit Go.Proofs.Ytlbabncagdkjpaa.PAll Go.Proofs.Ytlbabncagdkjpaa.DDev Go.Proofs.YtlbabncagdkjpaaW.PrintWords Go.Proofs.YtlbabncagdkjpaaW.PrintLast Go.Proofs.YtlbabncagdkjpaaW.PrintMore
set_option linter.unusedVariables false
set_option linter.unusedSimpArgs false
theorem rdO (pre : List Opn) (r : Opn) (rest : List Opn) : rd_T66 (pre ++ r :: rest) (pre.length : Int) = r := by
  unfold rd_T66
  simp [List.getD_eq_getElem?_getD]
theorem up1 (n : Nat) (h : n < 9223372036854775807) : wrap64 ((n : Int) + 1) = ((n + 1 : Nat) : Int) := by rw [LEv.w64 _ (by omega) (by omega)]; omega
theorem len1 {α : Type} (pre : List α) (r : α) : ((pre ++ [r]).length : Int) = ((pre.length + 1 : Nat) : Int) := by simp
def LargeS (l : List Opn) : Bool := (l.take 60).any (fun x => decide (200 < x.f1.length)) || decide (60 < l.length)
theorem large_l0 (l : List Opn) (hl : l.length ≤ 9223372036854775807) : ∀ (rest pre : List Opn), l = pre ++ rest → (pre.length ≤ 60) →
    Ev (fun m => notaryref48_Large.l0 m l (pre.length : Int)) ((rest.take (60 - pre.length)).any (fun x => decide (200 < x.f1.length)) || decide (60 < l.length))
  | [], pre, h, hp => by
    subst h
    refine Ev.step (fun m => notaryref48_Large.l0.eq_2 ..) (LEv.neg (by simp) ?_)
    refine Ev.step (fun m => notaryref48_Large.j1.eq_2 ..) (LEv.neg (by simp) (LEv.fin ?_))
    simp [decide_eq_decide]
    omega
  | r :: rest, pre, h, hp => by
    subst h
    refine Ev.step (fun m => notaryref48_Large.l0.eq_2 ..) (LEv.pos (by simp <;> omega) ?_)
    by_cases c : pre.length < 60
    · rw [decide_eq_true (show (pre.length : Int) < 60 by omega)]
      refine Ev.step (fun m => notaryref48_Large.j1.eq_2 ..) (LEv.pos rfl (LEv.pos (by omega) (LEv.pos (by simp <;> omega) ?_)))
      rw [rdO, up1 _ (by simp at hl; omega), show 60 - pre.length = (60 - (pre.length + 1)) + 1 by omega, List.take_succ_cons, List.any_cons]
      by_cases c2 : 200 < r.f1.length
      · exact LEv.pos (by omega) (LEv.fin (by simp [c2]))
      · refine LEv.neg (by omega) ?_
        have ih := large_l0 (pre ++ r :: rest) hl rest (pre ++ [r]) (by simp) (by simp; omega)
        rw [len1] at ih
        rw [decide_eq_false c2, Bool.false_or]
        have e : (pre ++ [r]).length = pre.length + 1 := by simp
        rw [e] at ih
        exact ih
    · rw [decide_eq_false (show ¬ (pre.length : Int) < 60 by omega), show 60 - pre.length = 0 by omega]
      refine Ev.step (fun m => notaryref48_Large.j1.eq_2 ..) (LEv.neg (by simp) (LEv.fin ?_))
      simp [decide_eq_decide]
      omega
theorem large_ev (l : List Opn) (hl : l.length ≤ 9223372036854775807) : Ev (fun m => notaryref48_Large.f m l) (LargeS l) := large_l0 l hl l [] rfl (by simp)
theorem small (l : List Opn) (h : LargeS l = false) : l.length ≤ 60 ∧ ∀ x ∈ l, x.f1.length ≤ 200 := by
  unfold LargeS at h
  simp only [Bool.or_eq_false_iff, decide_eq_false_iff_not, List.any_eq_false, decide_eq_true_eq] at h
  obtain ⟨h1, h2⟩ := h
  refine ⟨by omega, fun x hx => ?_⟩
  have := h1 x (by rw [List.take_of_length_le (by omega)]; exact hx)
  omega
/-! ### the same bytes -/
theorem same_l0 (l : List Int) (hl : l.length ≤ 9223372036854775807) : ∀ (rest pre : List Int), l = pre ++ rest → Ev (fun m => notaryref01_Same.l0 m l l (pre.length : Int)) true
  | [], pre, h => by
    subst h
    exact Ev.step (fun m => notaryref01_Same.l0.eq_2 ..) (LEv.neg (by simp) (Ev.now _))
  | r :: rest, pre, h => by
    subst h
    refine Ev.step (fun m => notaryref01_Same.l0.eq_2 ..) (LEv.pos (by simp <;> omega) (LEv.pos (by omega) (LEv.pos (by simp <;> omega) (LEv.pos rfl ?_))))
    rw [up1 _ (by simp at hl; omega)]
    have ih := same_l0 (pre ++ r :: rest) hl rest (pre ++ [r]) (by simp)
    rw [len1] at ih
    exact ih
theorem same_ev (l : List Int) (hl : l.length ≤ 9223372036854775807) : Ev (fun m => notaryref01_Same.f m l l) true :=
  Ev.congr (fun m => notaryref01_Same.f.eq_1 ..) (LEv.pos rfl (same_l0 l hl l [] rfl))
theorem begins_ev (l : List Int) (n : Nat) (hn : n ≤ l.length) (hl : l.length ≤ 9223372036854775807) : Ev (fun m => notaryref48_Begins.f m l (l.take n)) true := by
  refine Ev.congr (fun m => notaryref48_Begins.f.eq_1 ..) (LEv.pos (by rw [List.length_take]; omega) ?_)
  rw [List.length_take, Nat.min_eq_left hn]
  exact same_ev _ (by rw [List.length_take]; omega)
/-! ### the reference's operations -/
theorem between_eq (n hi : Int) (h : 0 ≤ hi) : notaryref48_Between.f n hi = some (heldN n hi) := by
  unfold notaryref48_Between.f heldN mn mx
  by_cases h1 : n < 0
  · rw [if_pos h1]
    congr 1
    (repeat' split) <;> omega
  · rw [if_neg h1]
    by_cases h2 : n > hi
    · rw [if_pos h2]
      congr 1
      (repeat' split) <;> omega
    · rw [if_neg h2]
      congr 1
      (repeat' split) <;> omega
theorem held_range (n hi : Int) (h : 0 ≤ hi) : 0 ≤ heldN n hi ∧ heldN n hi ≤ hi := by
  unfold heldN mn mx
  split <;> split <;> omega
theorem ref_new (n : Int) : notaryref48_New.f n = some (heldN n 65536, 0, []) := by
  unfold notaryref48_New.f
  rw [between_eq _ _ (by decide), Option.bind_some]
theorem cut_eq (room sure : Int) (bs : List Int) (n : Int) (hs : 0 ≤ sure) : notaryref48_Cut.f room sure bs n = some (room, mn sure (cutB bs n).length, cutB bs n) := by
  have h := held_range n bs.length (by omega)
  unfold notaryref48_Cut.f
  rw [between_eq _ _ (by omega), Option.bind_some, if_pos h.1, if_pos h.2, Option.bind_some]
  show (notaryref48_Between.f sure ((cutB bs n).length : Int)).bind _ = _
  rw [between_eq _ _ (by omega), Option.bind_some]
  have e : heldN sure ((cutB bs n).length : Int) = mn sure (cutB bs n).length := by unfold heldN mx; rw [if_neg (by omega)]
  rw [e]
  rfl
theorem do_eq (room sure : Int) (bs : List Int) (x : Opn) (hr : room ≤ 65536) (hr0 : 0 ≤ room) (hb : bs.length ≤ room) (hs : 0 ≤ sure) (hs2 : sure ≤ bs.length) (hx : x.f1.length ≤ 70000) :
    notaryref48_Do.f room sure bs x.f0 x.f1 x.f2 = some (room, (doS room sure bs x).1, (doS room sure bs x).2.1, (doS room sure bs x).2.2) := by
  unfold notaryref48_Do.f doS
  by_cases k0 : x.f0 = 0
  · rw [if_pos k0, if_pos k0]
    unfold notaryref48_Append.f
    rw [LEv.w64 _ (by omega) (by omega)]
    by_cases c : room - bs.length < x.f1.length
    · rw [if_pos (by omega), if_pos c]; rfl
    · rw [if_neg (by omega), if_neg c]
      simp only [Option.bind_some, List.nil_append, List.length_nil, Nat.zero_add]
      rw [if_pos (by omega), if_pos (by omega)]
      rfl
  · rw [if_neg k0, if_neg k0]
    by_cases k1 : x.f0 = 1
    · rw [if_pos k1, if_pos k1]; rfl
    · rw [if_neg k1, if_neg k1]
      by_cases k2 : x.f0 = 2
      · rw [if_pos k2, if_pos k2]
        have h := held_range x.f2 (bs.length - sure) (by omega)
        unfold notaryref48_Crash.f
        rw [LEv.w64 _ (by omega) (by omega), between_eq _ _ (by omega), Option.bind_some, LEv.w64 _ (by omega) (by omega), cut_eq _ _ _ _ hs]
        have e : cutB bs (sure + heldN x.f2 (bs.length - sure)) = crashB sure bs x.f2 := by
          unfold cutB crashB
          congr 2
          unfold heldN mn mx at h ⊢
          split <;> split <;> omega
        rw [e]
        rfl
      · rw [if_neg k2, if_neg k2]
        by_cases k3 : x.f0 = 3
        · rw [if_pos k3, if_pos k3, cut_eq _ _ _ _ hs]; rfl
        · rw [if_neg k3, if_neg k3]
/-- what stays so whatever is done -/
theorem do_keeps (room sure : Int) (bs : List Int) (x : Opn) (hb : bs.length ≤ room) (hs : 0 ≤ sure) (hs2 : sure ≤ bs.length) :
    ((doS room sure bs x).2.1.length : Int) ≤ room ∧ 0 ≤ (doS room sure bs x).1 ∧ (doS room sure bs x).1 ≤ (doS room sure bs x).2.1.length := by
  unfold doS
  split
  · split
    · exact ⟨hb, hs, hs2⟩
    · refine ⟨?_, hs, ?_⟩ <;> (simp only [List.length_append]; omega)
  · split
    · exact ⟨hb, by omega, by simp⟩
    · split
      · refine ⟨?_, by simp, by simp⟩
        simp only [crashB, List.length_take]; omega
      · split
        · refine ⟨?_, ?_, ?_⟩
          · simp only [cutB, List.length_take]; omega
          · unfold mn; split <;> omega
          · unfold mn; split <;> simp only [] <;> omega
        · exact ⟨hb, hs, hs2⟩
end Go.Proofs.Ytlbabncagdkjpaa.LDev
