/- Logs of one tag, over numbers and lists alone. -/
import Derived.Test.YtnkkgeglnmggpaaLClash
import Derived.Test.YtnkkgeglnmggpaaLEnt3
import Derived.Test.YtnkkgeglnmggpaaLEnt4
import Derived.Test.YtnkkgeglnmggpaaPCpx5
import Derived.Test.YtnkkgeglnmggpaaPCpx6
namespace Go.Proofs.Ytnkkgeglnmggpaa.LChain
open Go.RowKit Go.Proofs.Ytnkkgeglnmggpaa.PCp Go.Proofs.YtnkkgeglnmggpaaW.PrintWords Go.Proofs.YtnkkgeglnmggpaaW.PrintLast Go.Proofs.YtnkkgeglnmggpaaW.PrintMore
open LSame (Byt)
set_option linter.unusedVariables false
set_option linter.unusedSimpArgs false
theorem payS_inv (k : Int) (b : List Int) (h : (LEnt.payS k b).2 = 0) : 1 ≤ k ∧ k ≤ 3 ∧ b.length ≤ 1024 := by
  unfold LEnt.payS at h
  split at h
  · split at h
    · simp at h
    · rename_i h1 h2
      exact ⟨h1.1, h1.2, by omega⟩
  · simp at h
theorem large_l0 (L : List Ent) : ∀ (d i : Nat), d + i = min L.length 20 → ∃ r, Ev (fun m => notaryref47_Large.l0 m L (i : Int)) r ∧ (r = false → L.length ≤ 20)
  | 0, i => fun h => by
    refine ⟨decide ((L.length : Int) > 20), ?_, fun h => by have := of_decide_eq_false h; omega⟩
    have hj : Ev (fun m => notaryref47_Large.j1 m L (i : Int) false) (decide ((L.length : Int) > 20)) := Ev.step (fun m => notaryref47_Large.j1.eq_2 ..) (LEv.neg (by decide) (Ev.now _))
    refine Ev.step (fun m => notaryref47_Large.l0.eq_2 ..) ?_
    by_cases hl : (i : Int) < (L.length : Int)
    · refine LEv.pos hl ?_
      rw [decide_eq_false (by omega)]
      exact hj
    · exact LEv.neg hl hj
  | d + 1, i => fun h => by
    have hl : (i : Int) < (L.length : Int) := by omega
    have hw : wrap64 ((i : Int) + 1) = ((i + 1 : Nat) : Int) := by rw [LEv.w64 _ (by omega) (by omega)]; omega
    obtain ⟨r, hr, hh⟩ := large_l0 L d (i + 1) (by omega)
    have go : ∀ r, Ev (fun m => notaryref47_Large.j1 m L (i : Int) true) r → Ev (fun m => notaryref47_Large.l0 m L (i : Int)) r := fun r k => by
      refine Ev.step (fun m => notaryref47_Large.l0.eq_2 ..) (LEv.pos hl ?_)
      rw [decide_eq_true (by omega)]
      exact k
    by_cases hb : (((rd_T42 L (i : Int)).f1).length : Int) > 2000
    · exact ⟨true, go _ (Ev.step (fun m => notaryref47_Large.j1.eq_2 ..) (LEv.pos rfl (LEv.pos (by omega) (LEv.pos hl (LEv.pos hb (Ev.now _)))))), fun h => by simp at h⟩
    · refine ⟨r, go _ (Ev.step (fun m => notaryref47_Large.j1.eq_2 ..) (LEv.pos rfl (LEv.pos (by omega) (LEv.pos hl (LEv.neg hb ?_))))), hh⟩
      rw [hw]
      exact hr
theorem large_ev (L : List Ent) : ∃ r, Ev (fun m => notaryref47_Large.f m L) r ∧ (r = false → L.length ≤ 20) := by
  obtain ⟨r, h1, h2⟩ := large_l0 L (min L.length 20) 0 (by omega)
  exact ⟨r, Ev.congr (fun m => notaryref47_Large.f.eq_1 ..) h1, h2⟩
/-- entries that have frames -/
def Oks (tag : List Int) (L : List Ent) : Prop := ∀ e ∈ L, (LEnt.frS e.f0 e.f1 tag).2 = 0
instance (tag : List Int) (L : List Ent) : Decidable (Oks tag L) := by unfold Oks; exact inferInstance
/-- their frames, each with one tag -/
def cat (tag : List Int) : List Ent → List Int
  | [] => []
  | e :: L => (LEnt.frS e.f0 e.f1 tag).1 ++ cat tag L
theorem frS_len (k : Int) (b t : List Int) (ht : t.length = 32) : (LEnt.frS k b t).1.length ≤ 2000 := by
  have h := LEnt.payS_len k b
  unfold LEnt.frS
  split
  · have h5 : (entry_length.bytes ((LEnt.payS k b).1.length : Int)).length = 4 := rfl
    simp only [List.length_append, h5]
    omega
  · simp
theorem forged_ev (tag : List Int) (ht : tag.length = 32) (L : List Ent) (hL : L.length ≤ 20) : Ev (fun m => notarylaw47_forged.f m L tag) (if Oks tag L then cat tag L else []) := by
  have key : ∀ (rest pre : List Ent) (out : List Int), L = pre ++ rest → out.length ≤ 2000 * pre.length → Ev (fun m => notarylaw47_forged.l0 m L tag out (pre.length : Int)) (if Oks tag rest then out ++ cat tag rest else []) := by
    intro rest
    induction rest with
    | nil => exact fun pre out he ho => Ev.step (fun m => notarylaw47_forged.l0.eq_2 ..) (LEv.neg (by rw [he]; simp) (LEv.fin (by simp [Oks, cat])))
    | cons e rest ih =>
      intro pre out he ho
      have e1 : rd_T42 L (pre.length : Int) = e := by rw [he]; exact rd_suf _ _ _
      have e3 : pre.length < L.length := by rw [he]; simp
      have hfl := frS_len e.f0 e.f1 tag ht
      have hw : wrap64 ((pre.length : Int) + 1) = ((pre.length + 1 : Nat) : Int) := by rw [LEv.w64 _ (by omega) (by omega)]; omega
      refine Ev.step (fun m => notarylaw47_forged.l0.eq_2 ..) (LEv.pos (by omega) (LEv.pos (by omega) ?_))
      rw [e1, hw]
      refine LEv.bd _ (LEnt.rframe_ev e.f0 e.f1 tag) ?_
      by_cases h0 : (LEnt.frS e.f0 e.f1 tag).2 = 0
      · refine LEv.pos h0 (LEv.pos (by omega) ?_)
        have hs := ih (pre ++ [e]) (out ++ (LEnt.frS e.f0 e.f1 tag).1) (by rw [he]; simp) (by simp; omega)
        rw [show (pre ++ [e]).length = pre.length + 1 by simp] at hs
        refine LEv.val ?_ hs
        by_cases h1 : Oks tag rest
        · have h2 : Oks tag (e :: rest) := fun x hx => by
            rcases List.mem_cons.1 hx with rfl | hx
            · exact h0
            · exact h1 x hx
          rw [if_pos h1, if_pos h2, cat, List.append_assoc]
        · have h2 : ¬ Oks tag (e :: rest) := fun h => h1 (fun x hx => h x (List.mem_cons_of_mem _ hx))
          rw [if_neg h1, if_neg h2]
      · refine LEv.neg h0 (LEv.fin ?_)
        have h2 : ¬ Oks tag (e :: rest) := fun h => h0 (h e List.mem_cons_self)
        rw [if_neg h2]
  have := key L [] [] rfl (by simp)
  rw [List.nil_append] at this
  exact Ev.congr (fun m => notarylaw47_forged.f.eq_1 ..) this
theorem fr_ok (tag : List Int) (ht : tag.length = 32) (htb : Byt tag) (e : Ent) (hb : Byt e.f1) (h : (LEnt.frS e.f0 e.f1 tag).2 = 0) : FrOk (e, tag) ∧ (LEnt.frS e.f0 e.f1 tag).1 = entry_length.bytes ((e.f1.length + 1 : Nat) : Int) ++ (e.f0 :: e.f1) ++ tag ∧ Byt (LEnt.frS e.f0 e.f1 tag).1 := by
  obtain ⟨h1, h2, h3, h4, h5⟩ := LEnt.frS_ok _ _ _ h
  refine ⟨⟨h1, h2, h3, hb, ht, htb⟩, h5, ?_⟩
  rw [h5]
  refine (Byt.append ?_ (Byt.cons (by omega) (by omega) hb)).append htb
  unfold entry_length.bytes
  exact Byt.cons (by omega) (by omega) (Byt.cons (by omega) (by omega) (Byt.cons (by omega) (by omega) (Byt.cons (by omega) (by omega) Byt.nil)))
theorem cat_fine (tag : List Int) (ht : tag.length = 32) (htb : Byt tag) : ∀ L : List Ent, (∀ e ∈ L, Byt e.f1) → Oks tag L → Byt (cat tag L) ∧ (cat tag L).length ≤ 2000 * L.length ∧ L.length ≤ (cat tag L).length
  | [], _, _ => ⟨Byt.nil, by simp [cat], by simp [cat]⟩
  | e :: L, hB, ho => by
    obtain ⟨h1, h2, h3⟩ := fr_ok tag ht htb e (hB e List.mem_cons_self) (ho e List.mem_cons_self)
    obtain ⟨i1, i2, i3⟩ := cat_fine tag ht htb L (fun x hx => hB x (List.mem_cons_of_mem _ hx)) (fun x hx => ho x (List.mem_cons_of_mem _ hx))
    have hfl := frS_len e.f0 e.f1 tag ht
    have hpos : 0 < (LEnt.frS e.f0 e.f1 tag).1.length := by rw [h2]; simp [entry_length.bytes]
    refine ⟨h3.append i1, ?_, ?_⟩
    · simp only [cat, List.length_append, List.length_cons]; omega
    · simp only [cat, List.length_append, List.length_cons]; omega
theorem frs_cat (tag : List Int) (ht : tag.length = 32) (htb : Byt tag) : ∀ (L : List Ent) (pre : List Int) (N : Nat), (∀ e ∈ L, Byt e.f1) → Oks tag L → L.length ≤ 20 → pre.length ≤ 2000 * (20 - L.length) → L.length < N →
    frs (pre ++ cat tag L) N (pre.length : Int) = (L.map (fun e => (e, tag)), 0)
  | [], pre, N, hB, ho, hl, hp, hN => by
    obtain ⟨M, rfl⟩ : ∃ M, N = M + 1 := ⟨N - 1, by simp at hN; omega⟩
    rw [frs]
    simp [cat]
  | e :: L, pre, N, hB, ho, hl, hp, hN => by
    obtain ⟨M, rfl⟩ : ∃ M, N = M + 1 := ⟨N - 1, by omega⟩
    rw [List.length_cons] at hl hp hN
    obtain ⟨h1, h2, h3⟩ := fr_ok tag ht htb e (hB e List.mem_cons_self) (ho e List.mem_cons_self)
    have hB' := fun x hx => hB x (List.mem_cons_of_mem e hx)
    have ho' : Oks tag L := fun x hx => ho x (List.mem_cons_of_mem _ hx)
    obtain ⟨_, c2, _⟩ := cat_fine tag ht htb L hB' ho'
    have hfl := frS_len e.f0 e.f1 tag ht
    have ih := frs_cat tag ht htb L (pre ++ (LEnt.frS e.f0 e.f1 tag).1) M hB' ho' (by omega) (by rw [List.length_append]; omega) (by omega)
    have hR := LEnt.read_frame pre (cat tag L) e.f0 e.f1 tag h1.k1 h1.k2 h1.b h1.t (by omega)
    rw [← h2] at hR
    have hpos : 0 < (LEnt.frS e.f0 e.f1 tag).1.length := by rw [h2]; simp [entry_length.bytes]
    rw [cat, ← List.append_assoc]
    rw [List.length_append] at ih
    rw [frs, hR, if_pos (by simp only [List.length_append]; omega)]
    simp only [if_true]
    rw [ih]
    rfl
theorem frsOf_cat (tag : List Int) (ht : tag.length = 32) (htb : Byt tag) (L : List Ent) (hB : ∀ e ∈ L, Byt e.f1) (ho : Oks tag L) (hl : L.length ≤ 20) : frsOf (cat tag L) = (L.map (fun e => (e, tag)), 0) := by
  obtain ⟨_, _, c3⟩ := cat_fine tag ht htb L hB ho
  have := frs_cat tag ht htb L [] ((cat tag L).length + 1) hB ho hl (by simp) (by omega)
  rwa [List.nil_append] at this
/-- a log's message at a place, where all tags are one -/
def msgAt (tag : List Int) (L : List Ent) (i : Nat) : List Int := (msgS (if i = 0 then zeroT else tag) ((i + 1 : Nat) : Int) (rd_T42 L (i : Int)).f0 (rd_T42 L (i : Int)).f1).1
/-- where two such logs part, from a place down -/
def parts (tag : List Int) (L K : List Ent) : Nat → List Int × List Int × Bool
  | 0 => ([], [], false)
  | i + 1 => if msgAt tag L i = msgAt tag K i then parts tag L K i else (msgAt tag L i, msgAt tag K i, true)
theorem msgs_at (tag : List Int) (L : List Ent) (i : Nat) (hi : i < L.length) : (msgs zeroT 1 (L.map (fun e => (e, tag)))).getD i [] = msgAt tag L i := by
  rw [msgs_getD _ _ _ _ (by simpa using hi)]
  unfold msgAt
  have e1 : (((L.map (fun e => (e, tag))).map (·.1)).getD i z42) = rd_T42 L (i : Int) := by
    unfold rd_T42
    simp [List.map_map, Function.comp_def]
  rw [e1]
  have e2 : (1 : Int) + (i : Int) = ((i + 1 : Nat) : Int) := by omega
  rw [e2]
  by_cases h0 : i = 0
  · rw [if_pos h0, if_pos h0]
  · rw [if_neg h0, if_neg h0]
    have e3 : (((L.map (fun e => (e, tag))).map (·.2)).getD (i - 1) []) = tag := by
      simp [List.getD_eq_getElem?_getD, List.getElem?_eq_getElem (show i - 1 < L.length by omega)]
    rw [e3]
theorem clS_parts (tag : List Int) (L K : List Ent) (hLK : L.length = K.length) : ∀ i, i ≤ L.length →
    clS ((L.map (fun e => (e, tag))).map (·.2)) ((K.map (fun e => (e, tag))).map (·.2)) (msgs zeroT 1 (L.map (fun e => (e, tag)))) (msgs zeroT 1 (K.map (fun e => (e, tag)))) i = parts tag L K i
  | 0, _ => rfl
  | i + 1, hi => by
    rw [clS, parts, msgs_at tag L i (by omega), msgs_at tag K i (by omega), clS_parts tag L K hLK i (by omega)]
    have e3 : ∀ (M : List Ent), i < M.length → (((M.map (fun e => (e, tag))).map (·.2)).getD i []) = tag := fun M hM => by
      simp [List.getD_eq_getElem?_getD, List.getElem?_eq_getElem hM]
    rw [e3 L (by omega), e3 K (by omega), if_pos rfl]
theorem clash_parts (tag : List Int) (ht : tag.length = 32) (htb : Byt tag) (L K : List Ent) (hB : ∀ e ∈ L, Byt e.f1) (hB2 : ∀ e ∈ K, Byt e.f1) (ho : Oks tag L) (ho2 : Oks tag K) (hl : L.length ≤ 20) (hLK : L.length = K.length) :
    Ev (fun m => chain_Clash.f m (cat tag L) (cat tag K)) (parts tag L K L.length) := by
  obtain ⟨b1, c1, _⟩ := cat_fine tag ht htb L hB ho
  obtain ⟨b2, c2, _⟩ := cat_fine tag ht htb K hB2 ho2
  have h := (clash_ev (cat tag L) (cat tag K) b1 b2 (by omega) (by omega)).1
  unfold clash at h
  rw [frsOf_cat tag ht htb L hB ho hl, frsOf_cat tag ht htb K hB2 ho2 (by omega)] at h
  simp only [List.length_map] at h
  rw [if_pos ⟨trivial, trivial, hLK⟩, clS_parts tag L K hLK _ (Nat.le_refl _)] at h
  exact h
theorem msgAt_fine (tag : List Int) (ht : tag.length = 32) (htb : Byt tag) (L : List Ent) (hB : ∀ e ∈ L, Byt e.f1) (ho : Oks tag L) (i : Nat) (hi : i < L.length) : (msgAt tag L i).length ≤ 2000 := by
  have hm : rd_T42 L (i : Int) ∈ L := by
    unfold rd_T42
    rw [Int.toNat_natCast, List.getD_eq_getElem?_getD, List.getElem?_eq_getElem hi]
    exact List.getElem_mem _
  obtain ⟨h1, _, _⟩ := fr_ok tag ht htb _ (hB _ hm) (ho _ hm)
  unfold msgAt
  split
  · exact (msgS_byt zeroT _ _ h1 zeroT_byt zeroT_len).2.1
  · exact (msgS_byt tag _ _ h1 htb ht).2.1
end Go.Proofs.Ytnkkgeglnmggpaa.LChain
