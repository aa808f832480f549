/- The law of where two logs part, over numbers and lists alone. -/
import Derived.Test.YtnkkgeglnmggpaaLClash
import Derived.Test.YtnkkgeglnmggpaaPCcx5
import Derived.Test.YtnkkgeglnmggpaaPCcx9
namespace Go.Proofs.Ytnkkgeglnmggpaa.LChain
open Go.RowKit Go.Proofs.Ytnkkgeglnmggpaa.PCc Go.Proofs.YtnkkgeglnmggpaaW.PrintWords Go.Proofs.YtnkkgeglnmggpaaW.PrintLast Go.Proofs.YtnkkgeglnmggpaaW.PrintMore
open LSame (Byt)
set_option linter.unusedVariables false
set_option linter.unusedSimpArgs false
theorem good_at (key : List Int) : ∀ (F : List Fr) (a : List Int) (n : Int), goodS key a n F = F.length → ∀ i, i < F.length → tagS key ((msgs a n F).getD i []) = (F.map (·.2)).getD i []
  | [], _, _ => fun _ i hi => by simp at hi
  | f :: F, a, n => fun h i hi => by
    rw [goodS] at h
    by_cases c : tagS key (msgS a n f.1.f0 f.1.f1).1 = f.2
    · rw [if_pos c, List.length_cons] at h
      cases i with
      | zero => simpa [msgs] using c
      | succ i =>
        have := good_at key F f.2 (n + 1) (by omega) i (by simpa using hi)
        simpa [msgs] using this
    · rw [if_neg c] at h
      simp at h
/-- a frame's bytes -/
def fbytes (f : Fr) : List Int := (LEnt.frS f.1.f0 f.1.f1 f.2).1
theorem frs_whole (log : List Int) (hB : Byt log) (hl : log.length < 140737488355328) : ∀ (N : Nat) (a : Nat), log.length - a < N → a ≤ log.length → (frs log N (a : Int)).2 = 0 → log.drop a = ((frs log N (a : Int)).1.map fbytes).flatten
  | 0, a => fun h _ _ => by omega
  | N + 1, a => fun hN ha h0 => by
    obtain ⟨R, hR, _, hF⟩ := LEnt.read_both log hB hl (a : Int)
    rw [frs, hR] at h0 ⊢
    by_cases h1 : (a : Int) < (log.length : Int)
    · rw [if_pos h1] at h0 ⊢
      simp only at h0 ⊢
      by_cases h2 : R.2.2.2.2 = 0
      · rw [if_pos h2] at h0 ⊢
        obtain ⟨_, g0, g1, g2⟩ := read_fine log hB hl (a : Int) R hR h2
        obtain ⟨_, _, _, hfr⟩ := hF h2
        obtain ⟨b, hb⟩ : ∃ b : Nat, R.2.2.2.1 = (b : Int) := ⟨R.2.2.2.1.toNat, by omega⟩
        rw [hb] at h0 g1 g2 hfr ⊢
        have ih := frs_whole log hB hl N b (by omega) (by omega) h0
        simp only [List.map_cons, List.flatten_cons]
        rw [← ih]
        have e : fbytes (⟨R.1, R.2.1⟩, R.2.2.1) = (log.take b).drop a := by
          unfold fbytes
          simp only
          rw [hfr]
          simp
        rw [e]
        have e2 : log.drop b = (log.drop a).drop (b - a) := by rw [List.drop_drop]; congr 1; omega
        rw [List.drop_take, e2, List.take_append_drop]
      · rw [if_neg h2] at h0
        exact absurd h0 h2
    · have : a = log.length := by omega
      rw [if_neg h1]
      simp [this]
theorem logs_same (a b : List Int) (hA : Byt a) (hB : Byt b) (hal : a.length ≤ 1000000) (hbl : b.length ≤ 1000000) (h1 : (frsOf a).2 = 0) (h2 : (frsOf b).2 = 0) (h : (frsOf a).1 = (frsOf b).1) : a = b := by
  have e1 := frs_whole a hA (by omega) (a.length + 1) 0 (by omega) (by omega) h1
  have e2 := frs_whole b hB (by omega) (b.length + 1) 0 (by omega) (by omega) h2
  rw [List.drop_zero] at e1 e2
  rw [e1, e2]
  exact congrArg (fun F : List Fr => (F.map fbytes).flatten) h
theorem append_inj32 {a a' x x' : List Int} (h1 : a.length = a'.length) (h : a ++ x = a' ++ x') : a = a' ∧ x = x' := List.append_inj h h1
/-- from a place on all frames are the same, and so are the tags ahead of it: the logs part below, or are the same -/
theorem part (key : List Int) (F G : List Fr) (hF : ∀ f ∈ F, FrOk f) (hG : ∀ f ∈ G, FrOk f) (hlen : F.length = G.length) (gF : goodS key zeroT 1 F = F.length) (gG : goodS key zeroT 1 G = G.length) :
    ∀ i, i ≤ F.length → (0 < i → (F.map (·.2)).getD (i - 1) [] = (G.map (·.2)).getD (i - 1) []) → F.drop i = G.drop i →
    F = G ∨ ((clS (F.map (·.2)) (G.map (·.2)) (msgs zeroT 1 F) (msgs zeroT 1 G) i).2.2 = true ∧ (clS (F.map (·.2)) (G.map (·.2)) (msgs zeroT 1 F) (msgs zeroT 1 G) i).1 ≠ (clS (F.map (·.2)) (G.map (·.2)) (msgs zeroT 1 F) (msgs zeroT 1 G) i).2.1 ∧
      tagS key (clS (F.map (·.2)) (G.map (·.2)) (msgs zeroT 1 F) (msgs zeroT 1 G) i).1 = tagS key (clS (F.map (·.2)) (G.map (·.2)) (msgs zeroT 1 F) (msgs zeroT 1 G) i).2.1 ∧ (∃ j, (clS (F.map (·.2)) (G.map (·.2)) (msgs zeroT 1 F) (msgs zeroT 1 G) i).1 = (msgs zeroT 1 F).getD j []) ∧ (∃ j, (clS (F.map (·.2)) (G.map (·.2)) (msgs zeroT 1 F) (msgs zeroT 1 G) i).2.1 = (msgs zeroT 1 G).getD j []))
  | 0 => fun _ _ h => .inl (by simpa using h)
  | i + 1 => fun hi ht hd => by
    have ht' := ht (Nat.succ_pos i)
    rw [Nat.add_sub_cancel] at ht'
    rw [clS, if_pos ht']
    by_cases hm : (msgs zeroT 1 F).getD i [] = (msgs zeroT 1 G).getD i []
    · rw [if_pos hm]
      have m1 := msgs_getD F zeroT 1 i (by omega)
      have m2 := msgs_getD G zeroT 1 i (by omega)
      rw [m1, m2] at hm
      have hFi := hF F[i] (List.getElem_mem (by omega))
      have hGi := hG G[i] (List.getElem_mem (by omega))
      have f1 : (F.map (·.1)).getD i z42 = F[i].1 := by simp [List.getD_eq_getElem?_getD, List.getElem?_eq_getElem (show i < F.length by omega)]
      have g1 : (G.map (·.1)).getD i z42 = G[i].1 := by simp [List.getD_eq_getElem?_getD, List.getElem?_eq_getElem (show i < G.length by omega)]
      have f2 : (F.map (·.2)).getD i [] = F[i].2 := by simp [List.getD_eq_getElem?_getD, List.getElem?_eq_getElem (show i < F.length by omega)]
      have g2 : (G.map (·.2)).getD i [] = G[i].2 := by simp [List.getD_eq_getElem?_getD, List.getElem?_eq_getElem (show i < G.length by omega)]
      have la : (if i = 0 then zeroT else (F.map (·.2)).getD (i - 1) []).length = 32 := by
        split
        · exact zeroT_len
        · exact (tagAt_len F hF (i - 1) (by omega)).1
      have lb : (if i = 0 then zeroT else (G.map (·.2)).getD (i - 1) []).length = 32 := by
        split
        · exact zeroT_len
        · exact (tagAt_len G hG (i - 1) (by omega)).1
      rw [f1, g1, msgS_ok _ _ _ _ la hFi.k1 hFi.k2 hFi.b, msgS_ok _ _ _ _ lb hGi.k1 hGi.k2 hGi.b] at hm
      simp only [List.append_assoc] at hm
      obtain ⟨ha, hm⟩ := append_inj32 (la.trans lb.symm) hm
      obtain ⟨_, hm⟩ := append_inj32 rfl hm
      obtain ⟨hk, hb⟩ := List.cons.inj hm
      have he : F[i] = G[i] := by
        refine Prod.ext ?_ (by rw [← f2, ← g2]; exact ht')
        cases hx : F[i].1
        cases hy : G[i].1
        rw [hx, hy] at hk hb
        simp only at hk hb
        rw [hk, hb]
      refine part key F G hF hG hlen gF gG i (by omega) (fun h => ?_) ?_
      · rw [if_neg (by omega), if_neg (by omega)] at ha
        exact ha
      · rw [List.drop_eq_getElem_cons (show i < F.length by omega), List.drop_eq_getElem_cons (show i < G.length by omega), he, hd]
    · rw [if_neg hm]
      refine .inr ⟨rfl, hm, ?_, ⟨i, rfl⟩, ⟨i, rfl⟩⟩
      simp only
      rw [good_at key F zeroT 1 gF i (by omega), good_at key G zeroT 1 gG i (by omega)]
      exact ht'
theorem lastT_at (F : List Fr) (a : List Int) (h : 0 < F.length) : lastT a F = (F.map (·.2)).getD (F.length - 1) [] := (lastT_getD F a (by omega)).symm
theorem entS_inv (key log : List Int) (h : (entS key log).2.2 = 0) : goodS key zeroT 1 (frsOf log).1 = (frsOf log).1.length ∧ (frsOf log).2 = 0 ∧ entS key log = ((frsOf log).1.map (·.1), lastT zeroT (frsOf log).1, 0) := by
  unfold entS at h ⊢
  by_cases h1 : goodS key zeroT 1 (frsOf log).1 < (frsOf log).1.length
  · rw [if_pos h1] at h
    simp at h
  · rw [if_neg h1] at h ⊢
    have := goodS_le key (frsOf log).1 zeroT 1
    by_cases h2 : (frsOf log).2 = 0
    · rw [if_pos h2]
      exact ⟨by omega, h2, rfl⟩
    · rw [if_neg h2] at h
      exact absurd h h2
/-- two logs that verify alike, and are unlike -/
theorem clash_found (key a b : List Int) (hA : Byt a) (hB : Byt b) (hal : a.length ≤ 1000000) (hbl : b.length ≤ 1000000) (h0 : (entS key a).2.2 = 0) (hne : a ≠ b) (hv : verS key b ((entS key a).1.length : Int) (entS key a).2.1 = true) :
    (clash a b).2.2 = true ∧ (clash a b).1 ≠ (clash a b).2.1 ∧ tagS key (clash a b).1 = tagS key (clash a b).2.1 := by
  obtain ⟨v1, v2, v3⟩ := of_decide_eq_true hv
  obtain ⟨gF, xF, eF⟩ := entS_inv key a h0
  obtain ⟨gG, xG, eG⟩ := entS_inv key b v1
  rw [eF, eG] at v2 v3
  simp only [List.length_map] at v2 v3
  have hF : ∀ f ∈ (frsOf a).1, FrOk f := frs_ok a hA (by omega) (a.length + 1) 0
  have hG : ∀ f ∈ (frsOf b).1, FrOk f := frs_ok b hB (by omega) (b.length + 1) 0
  have hsame : (frsOf a).1 ≠ (frsOf b).1 := fun h => hne (logs_same a b hA hB hal hbl xF xG h)
  have hlen : (frsOf a).1.length = (frsOf b).1.length := by omega
  have hp := part key (frsOf a).1 (frsOf b).1 hF hG hlen gF gG (frsOf a).1.length (Nat.le_refl _) (fun hpos => by
    rw [← lastT_at _ zeroT hpos, hlen, ← lastT_at _ zeroT (by omega)]
    exact v3.symm) (by rw [List.drop_length, hlen, List.drop_length])
  unfold clash
  rw [if_pos ⟨xF, xG, hlen⟩]
  rcases hp with h | ⟨p1, p2, p3, _, _⟩
  · exact absurd h hsame
  · exact ⟨p1, p2, p3⟩
theorem clash_byt (a b : List Int) (hA : Byt a) (hB : Byt b) (hal : a.length ≤ 1000000) (hbl : b.length ≤ 1000000) : (Byt (clash a b).1 ∧ (clash a b).1.length ≤ 2000) ∧ Byt (clash a b).2.1 ∧ (clash a b).2.1.length ≤ 2000 := by
  have hF : ∀ f ∈ (frsOf a).1, FrOk f := frs_ok a hA (by omega) (a.length + 1) 0
  have hG : ∀ f ∈ (frsOf b).1, FrOk f := frs_ok b hB (by omega) (b.length + 1) 0
  have hMa := msgs_all _ zeroT 1 hF zeroT_byt zeroT_len
  have hMb := msgs_all _ zeroT 1 hG zeroT_byt zeroT_len
  have key : ∀ (T T' M M' : List (List Int)), AllB M → AllB M' → ∀ i, (Byt (clS T T' M M' i).1 ∧ (clS T T' M M' i).1.length ≤ 2000) ∧ Byt (clS T T' M M' i).2.1 ∧ (clS T T' M M' i).2.1.length ≤ 2000 := by
    intro T T' M M' h h' i
    induction i with
    | zero => exact ⟨⟨Byt.nil, Nat.zero_le _⟩, Byt.nil, Nat.zero_le _⟩
    | succ i ih =>
      rw [clS]
      split
      · split
        · exact ih
        · exact ⟨h.at i, h'.at i⟩
      · exact ⟨⟨Byt.nil, Nat.zero_le _⟩, Byt.nil, Nat.zero_le _⟩
  unfold clash
  split
  · exact key _ _ _ _ hMa hMb _
  · exact ⟨⟨Byt.nil, Nat.zero_le _⟩, Byt.nil, Nat.zero_le _⟩
theorem ChainClashes (key a b : List Int) (hk : Byt key) (hA : Byt a) (hB : Byt b) : Ev (fun m => notarylaw47_ChainClashes.f m key a b) true := by
  have big : Ev (fun m => notarylaw47_ChainClashes.j0 m key a b true) true := Ev.step (fun m => notarylaw47_ChainClashes.j0.eq_2 ..) (LEv.pos rfl awake_bind)
  refine Ev.congr (fun m => notarylaw47_ChainClashes.f.eq_1 ..) ?_
  by_cases h1 : (key.length : Int) > 200
  · exact LEv.pos h1 big
  refine LEv.neg h1 ?_
  by_cases h2 : (a.length : Int) > 3000
  · exact LEv.pos h2 big
  refine LEv.neg h2 ?_
  by_cases h3 : (b.length : Int) > 3000
  · rw [decide_eq_true h3]
    exact big
  rw [decide_eq_false h3]
  obtain ⟨c1, c2⟩ := clash_ev a b hA hB (by omega) (by omega)
  obtain ⟨⟨b1, l1⟩, b2, l2⟩ := clash_byt a b hA hB (by omega) (by omega)
  have hfound := clash_found key a b hA hB (by omega) (by omega)
  obtain ⟨Q, hQ⟩ : ∃ Q, Q = clash a b := ⟨_, rfl⟩
  rw [← hQ] at c1 c2 b1 l1 b2 l2 hfound
  clear hQ
  have j2t : Ev (fun m => notarylaw47_ChainClashes.j2 m key Q.1 Q.2.1 Q.2.2 true) true := Ev.step (fun m => notarylaw47_ChainClashes.j2.eq_2 ..) (LEv.pos rfl awake_bind)
  refine Ev.step (fun m => notarylaw47_ChainClashes.j0.eq_2 ..) (LEv.neg (by decide) (LEv.bd Q c1 (LEv.bd Q c2 (LEv.neg (by simp) (LEv.bd _ (LSame.same_self _ (by omega)) (LEv.pos rfl (LEv.bd _ (LSame.same_self _ (by omega)) ?_)))))))
  refine Ev.step (fun m => notarylaw47_ChainClashes.j1.eq_2 ..) (LEv.neg (by decide) (LEv.bd _ (entries_ev key a hk (by omega) hA (by omega)) ?_))
  obtain ⟨_, _, eb, _⟩ := entS_fine key a hA (by omega)
  by_cases h0 : (entS key a).2.2 = 0
  · refine LEv.pos h0 (LEv.bd _ (LSame.same_ev a b (by omega)) ?_)
    by_cases hab : a = b
    · rw [decide_eq_true hab]
      exact LEv.pos rfl j2t
    · rw [decide_eq_false hab]
      refine LEv.neg (by decide) (LEv.bd _ (verify_ev key b ((entS key a).1.length : Int) (entS key a).2.1 hk (by omega) hB (by omega) eb) ?_)
      cases hv : verS key b ((entS key a).1.length : Int) (entS key a).2.1 with
      | false => exact j2t
      | true =>
        obtain ⟨p1, p2, p3⟩ := hfound h0 hab hv
        obtain ⟨_, tb1, t1, _⟩ := tagS_spec key Q.1 hk (by omega) b1 (by omega)
        obtain ⟨tl2, tb2, t2, _⟩ := tagS_spec key Q.2.1 hk (by omega) b2 (by omega)
        rw [p3] at t1
        have hs := LSame.same_ev Q.1 Q.2.1 (by omega)
        rw [decide_eq_false p2] at hs
        exact Ev.step (fun m => notarylaw47_ChainClashes.j2.eq_2 ..) (LEv.neg (by decide) (LEv.pos p1 (LEv.bd _ hs (LEv.neg (by decide) (LEv.bd _ t1 (LEv.bd _ t2 (LEv.bd _ (LSame.same_self _ (by omega)) (LEv.pos rfl awake_bind))))))))
  · exact LEv.neg h0 j2t
end Go.Proofs.Ytnkkgeglnmggpaa.LChain
