/- The law RegionOne, over texts alone. -/
import Derived.Test.YtlbabncagdkjpaaLRegion
import Derived.Test.YtlbabncagdkjpaaLEv
import Derived.Test.YtlbabncagdkjpaaPAllx4
namespace Go.Proofs.Ytlbabncagdkjpaa.Pure
open Go.RowKit Go.Proofs.Ytlbabncagdkjpaa.LText Go.Proofs.Ytlbabncagdkjpaa.LRegion Go.Proofs.Ytlbabncagdkjpaa.PAll Go.Proofs.YtlbabncagdkjpaaW.PrintWords Go.Proofs.YtlbabncagdkjpaaW.PrintLast Go.Proofs.YtlbabncagdkjpaaW.PrintMore
set_option linter.unusedVariables false
/-- the last part, ahead of which the region was told: two smaller ones do not do -/
theorem tail_ (p q : ByteArray) (f P Q : Nat) (hp : p.size ≤ 140737488351232) (hq : q.size ≤ 140737488351232) (hfP : f ≤ P) (hfQ : f ≤ Q) (hP : P ≤ p.size) (hQ : Q ≤ q.size) (hd : p.size - P = q.size - Q)
    (cA : f < P → f < Q → Ev (fun m => region_Check.f m p q [(⟨((f + 1 : Nat) : Int), (P : Int), ((f + 1 : Nat) : Int), (Q : Int)⟩ : Rg)]) 21)
    (cB : f < P → f < Q → Ev (fun m => region_Check.f m p q [(⟨(f : Int), ((P - 1 : Nat) : Int), (f : Int), ((Q - 1 : Nat) : Int)⟩ : Rg)]) 21) :
    Ev (fun m => notarylaw38_RegionOne.j0 m p q [(⟨(f : Int), (P : Int), (f : Int), (Q : Int)⟩ : Rg)] false) true := by
  have hlen : ((List.length [(⟨(f : Int), (P : Int), (f : Int), (Q : Int)⟩ : Rg)] : Nat) : Int) = 1 := rfl
  have r0 : rd_T29 [(⟨(f : Int), (P : Int), (f : Int), (Q : Int)⟩ : Rg)] 0 = ⟨f, P, f, Q⟩ := rfl
  have e1 : wrap64 ((f : Int) + 1) = ((f + 1 : Nat) : Int) := by rw [LEv.w64 _ (by omega) (by omega)]; omega
  have e4 : wrap64 ((p.size : Int) - (P : Int)) = wrap64 ((q.size : Int) - (Q : Int)) := by congr 1; omega
  refine Ev.step (fun m => notarylaw38_RegionOne.j0.eq_2 ..) ?_
  rw [hlen, r0]
  refine LEv.neg (by simp) (LEv.neg (by decide) (LEv.pos (by decide) ?_))
  by_cases hc : f < P ∧ f < Q
  · have e2 : wrap64 ((P : Int) - 1) = ((P - 1 : Nat) : Int) := by rw [LEv.w64 _ (by omega) (by omega)]; omega
    have e3 : wrap64 ((Q : Int) - 1) = ((Q - 1 : Nat) : Int) := by rw [LEv.w64 _ (by omega) (by omega)]; omega
    refine LEv.pos (show (f : Int) < (P : Int) by omega) ?_
    refine Ev.step (fun m => notarylaw38_RegionOne.j1.eq_2 ..) ?_
    refine LEv.pos (by simp; omega) ?_
    rw [e1, e2, e3, e4]
    refine LEv.bd _ (cA hc.1 hc.2) (LEv.neg (by decide) (LEv.bd _ (cB hc.1 hc.2) (LEv.neg (by decide) ?_)))
    exact LEv.pos rfl (LEv.pos rfl (LEv.bd _ awake_ev (Ev.now _)))
  · have hend : Ev (fun m => notarylaw38_RegionOne.j1 m p q false (f : Int) (P : Int) (f : Int) (Q : Int)) true := by
      refine Ev.step (fun m => notarylaw38_RegionOne.j1.eq_2 ..) ?_
      refine LEv.neg (by simp) ?_
      rw [e4]
      exact LEv.pos rfl (LEv.pos rfl (LEv.bd _ awake_ev (Ev.now _)))
    by_cases c1 : (f : Int) < (P : Int)
    · refine LEv.pos c1 ?_
      rw [decide_eq_false (show ¬ (f : Int) < (Q : Int) by omega)]
      exact hend
    · exact LEv.neg c1 hend
theorem RegionOne : notarylaw38_RegionOne.Pure := by
  intro p q hp hq
  refine Ev.rounds (g := fun m => notarylaw38_RegionOne.f m p q) ?_
  obtain ⟨l, hl, hev, hcase⟩ := one_ev p q hp hq
  have hl1 : l.length < 1000000 := by rcases hcase with ⟨_, rfl⟩ | ⟨_, rfl⟩ <;> simp
  have main : Ev (fun m => region_Check.f m p q l) 0 → Ev (fun m => notarylaw38_RegionOne.j0 m p q l false) true → Ev (fun m => notarylaw38_RegionOne.f m p q) true := by
    intro hc hj
    unfold notarylaw38_RegionOne.f
    refine Ev.congr (f := fun m => (notaryref38_One.f m p q).bind fun t130 => ((notaryref11_Same.f m l t130).bind fun t133 => (if t133 = true then ((region_Check.f m p q l).bind fun t134 => (notarylaw38_RegionOne.j0 m p q l (t134 != 0))) else (notarylaw38_RegionOne.j0 m p q l true)))) (fun m => by rw [hl]; rfl) ?_
    refine Ev.bind (f := fun m t130 => (notaryref11_Same.f m l t130).bind fun t133 => (if t133 = true then ((region_Check.f m p q l).bind fun t134 => (notarylaw38_RegionOne.j0 m p q l (t134 != 0))) else (notarylaw38_RegionOne.j0 m p q l true))) hev ?_
    refine Ev.bind (f := fun m t133 => (if t133 = true then ((region_Check.f m p q l).bind fun t134 => (notarylaw38_RegionOne.j0 m p q l (t134 != 0))) else (notarylaw38_RegionOne.j0 m p q l true))) (same_ev l hl1) ?_
    refine Ev.congr (f := fun m => (region_Check.f m p q l).bind fun t134 => (notarylaw38_RegionOne.j0 m p q l (t134 != 0))) (fun m => if_pos rfl) ?_
    exact Ev.bind (f := fun m t134 => notarylaw38_RegionOne.j0 m p q l (t134 != 0)) hc hj
  rcases hcase with ⟨he, rfl⟩ | ⟨hne, rfl⟩
  · refine main ?_ ?_
    · have := check_nil p q hp hq
      rwa [if_pos he] at this
    · refine Ev.step (f := fun m => (notarylaw38_awake.f m).bind fun t135 => (some t135)) (fun m => ?_) ?_
      · simp only [notarylaw38_RegionOne.j0]
        rw [if_neg (by simp), if_pos (by simp), if_pos he]
      · exact Ev.bind (f := fun m t => some t) awake_ev (Ev.now _)
  · have hal := region_One.al_le (region_One.h1 p q) (region_One.n p q) 0
    have hal2 := region_One.al_le (region_One.h2 p q) (region_One.n p q - region_One.from_ p q) 0
    have hs1 := al_is (region_One.h1 p q) (region_One.n p q) 0
    have hs2 := al_is (region_One.h2 p q) (region_One.n p q - region_One.from_ p q) 0
    have hn : region_One.n p q ≤ p.size ∧ region_One.n p q ≤ q.size ∧ (region_One.n p q = p.size ∨ region_One.n p q = q.size) := by unfold region_One.n; omega
    change _ ∧ region_One.from_ p q ≤ _ at hal
    change _ ∧ region_One.back p q ≤ _ at hal2
    change (∀ j, 0 ≤ j → j < region_One.from_ p q → _) ∧ (region_One.from_ p q < _ → region_One.h1 p q ((region_One.from_ p q : Nat) : Int) = false) at hs1
    change (∀ j, 0 ≤ j → j < region_One.back p q → _) ∧ (region_One.back p q < _ → region_One.h2 p q ((region_One.back p q : Nat) : Int) = false) at hs2
    generalize region_One.from_ p q = f at *
    generalize region_One.back p q = b at *
    generalize region_One.n p q = n at *
    rw [show (p.size : Int) - (b : Nat) = ((p.size - b : Nat) : Int) by omega, show (q.size : Int) - (b : Nat) = ((q.size - b : Nat) : Int) by omega] at main
    have hpre : p.toList.take f = q.toList.take f := (take_eq p q f (by omega) (by omega)).2 (fun j hj => (h1_is p q j).1 (hs1.1 j (by omega) hj))
    have hsuf : p.toList.drop (p.size - b) = q.toList.drop (q.size - b) := (drop_eq p q b (by omega) (by omega)).2 (fun j hj => (h2_is p q j).1 (hs2.1 j (by omega) hj))
    have ha : f ≤ n := by omega
    have hb : f + b ≤ n := by omega
    have hnp : n ≤ p.size := hn.1
    have hnq : n ≤ q.size := hn.2.1
    have hf : f < n → region_One.h1 p q (f : Int) = false := fun h => hs1.2 (by omega)
    have hbk : b < n - f → region_One.h2 p q (b : Int) = false := fun h => hs2.2 (by omega)
    have hor : n = p.size ∨ n = q.size := hn.2.2
    clear hal hal2 hs1 hs2 hn hev hl hl1
    refine main ?_ ?_
    · have := check_one p q hp hq f (p.size - b) f (q.size - b) (by omega) (by omega) (by omega) (by omega)
      rwa [if_pos hpre, if_pos hsuf] at this
    · clear main
      refine tail_ p q f (p.size - b) (q.size - b) hp hq (by omega) (by omega) (by omega) (by omega) (by omega) (fun c1 c2 => ?_) (fun c1 c2 => ?_)
      · have hA : p.toList.take (f + 1) ≠ q.toList.take (f + 1) := by
          intro e
          have := (take_eq p q (f + 1) (by omega) (by omega)).1 e f (by omega)
          rw [← h1_is, hf (by omega)] at this
          exact absurd this (by decide)
        have := check_one p q hp hq (f + 1) (p.size - b) (f + 1) (q.size - b) (by omega) (by omega) (by omega) (by omega)
        rwa [if_neg hA] at this
      · have hB : p.toList.drop (p.size - (b + 1)) ≠ q.toList.drop (q.size - (b + 1)) := by
          intro e
          have := (drop_eq p q (b + 1) (by omega) (by omega)).1 e b (by omega)
          rw [← h2_is, hbk (by omega)] at this
          exact absurd this (by decide)
        have := check_one p q hp hq f (p.size - b - 1) f (q.size - b - 1) (by omega) (by omega) (by omega) (by omega)
        rw [if_pos hpre, Nat.sub_sub, Nat.sub_sub, if_neg hB] at this
        rw [Nat.sub_sub, Nat.sub_sub]
        exact this
end Go.Proofs.Ytlbabncagdkjpaa.Pure
