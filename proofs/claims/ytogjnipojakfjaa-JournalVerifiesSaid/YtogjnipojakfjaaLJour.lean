/- Journals over numbers and lists: the frames of a log, what is found when it is opened, and what a crash leaves. -/
import Derived.Test.YtogjnipojakfjaaJJour9
import Derived.Test.YtogjnipojakfjaaLEnt4
import Derived.Test.YtogjnipojakfjaaLChain3
import Derived.Test.YtogjnipojakfjaaPJvx4
import Derived.Test.YtogjnipojakfjaaPJvx5
import Derived.Test.YtogjnipojakfjaaPJvx14
namespace Go.Proofs.Ytogjnipojakfjaa.JJour
open Go.RowKit Go.Proofs.Ytogjnipojakfjaa.PJv Go.Proofs.YtogjnipojakfjaaW.PrintWords Go.Proofs.YtogjnipojakfjaaW.PrintLast Go.Proofs.YtogjnipojakfjaaW.PrintMore
open LSame (Byt)
open LChain (msgS tagS zeroT Fr FrOk goodS lastT frs frsOf entS verS)
open DDev (heldN)
set_option linter.unusedVariables false
set_option linter.unusedSimpArgs false
/-- a frame's bytes, and those of frames -/
def frB (f : Fr) : List Int := (LEnt.frS f.1.f0 f.1.f1 f.2).1
def byF : List Fr → List Int
  | [] => []
  | f :: F => frB f ++ byF F
theorem frB_ok (f : Fr) (h : FrOk f) : LEnt.frS f.1.f0 f.1.f1 f.2 = (frB f, 0) ∧ frB f = entry_length.bytes ((f.1.f1.length + 1 : Nat) : Int) ++ (f.1.f0 :: f.1.f1) ++ f.2 ∧ (frB f).length = f.1.f1.length + 37 ∧ Byt (frB f) := by
  have hf := LEnt.frS_mk f.1.f0 f.1.f1 f.2 h.k1 h.k2 h.b h.t
  obtain ⟨_, fl, fb⟩ := frS_fine f.1 f.2 h.bb h.t h.tb ⟨h.k1, h.k2, h.b⟩
  refine ⟨by unfold frB; rw [hf], by unfold frB; rw [hf], fl, fb⟩
theorem byF_append : ∀ (F G : List Fr), byF (F ++ G) = byF F ++ byF G
  | [], G => rfl
  | f :: F, G => by rw [List.cons_append, byF, byF, byF_append F G, List.append_assoc]
theorem byF_len : ∀ F : List Fr, (∀ f ∈ F, FrOk f) → 37 * F.length ≤ (byF F).length
  | [], _ => Nat.le_refl _
  | f :: F, h => by
    have h1 := (frB_ok f (h f List.mem_cons_self)).2.2.1
    have h2 := byF_len F (fun g hg => h g (List.mem_cons_of_mem _ hg))
    rw [byF, List.length_append, List.length_cons]
    omega
theorem read_by (pre : List Int) (f : Fr) (hf : FrOk f) (post : List Int) (hp : pre.length + post.length < 100000000000) : entry_Read.f (pre ++ (frB f ++ post)) (pre.length : Int) = some (f.1.f0, f.1.f1, f.2, ((pre.length + (frB f).length : Nat) : Int), 0) := by
  have h := LEnt.read_frame pre post f.1.f0 f.1.f1 f.2 hf.k1 hf.k2 hf.b hf.t hp
  rw [← (frB_ok f hf).2.1, List.append_assoc] at h
  exact h
theorem frs_by : ∀ (F : List Fr) (pre : List Int) (N : Nat), (∀ f ∈ F, FrOk f) → pre.length + (byF F).length < 100000000 → F.length < N → frs (pre ++ byF F) N (pre.length : Int) = (F, 0)
  | [], pre, N, _, _, hN => by
    obtain ⟨M, rfl⟩ : ∃ M, N = M + 1 := ⟨N - 1, by simp at hN; omega⟩
    rw [frs]
    simp [byF]
  | f :: F, pre, N, hF, hp, hN => by
    obtain ⟨M, rfl⟩ : ∃ M, N = M + 1 := ⟨N - 1, by omega⟩
    have hf := hF f List.mem_cons_self
    obtain ⟨h1, h2, h3, h4⟩ := frB_ok f hf
    rw [byF, List.length_append] at hp
    rw [List.length_cons] at hN
    have hR := read_by pre f hf (byF F) (by omega)
    have ih := frs_by F (pre ++ frB f) M (fun g hg => hF g (List.mem_cons_of_mem _ hg)) (by rw [List.length_append]; omega) (by omega)
    rw [List.length_append, List.append_assoc] at ih
    rw [byF, frs, hR, if_pos (by simp only [List.length_append]; omega)]
    simp only [if_true]
    rw [ih]
theorem ent_by (key : List Int) (F : List Fr) (hF : ∀ f ∈ F, FrOk f) (hl : (byF F).length < 1000000) (hg : goodS key zeroT 1 F = F.length) : entS key (byF F) = (F.map (·.1), LChain.lastT zeroT F, 0) := by
  have hb := byF_len F hF
  have h : frsOf (byF F) = (F, 0) := frs_by F [] ((byF F).length + 1) hF (by simp; omega) (by omega)
  unfold entS
  rw [h, if_neg (by simp only; omega), if_pos rfl]
/-- a log that is right: its entries, and its last tag -/
def Built (key bs : List Int) (L : List Ent) (t : List Int) : Prop := ∃ F : List Fr, F.map (·.1) = L ∧ bs = byF F ∧ (∀ f ∈ F, FrOk f) ∧ goodS key zeroT 1 F = F.length ∧ t = LChain.lastT zeroT F
theorem built_nil (key : List Int) : Built key [] [] zeroT := ⟨[], rfl, rfl, fun _ h => absurd h (by simp), rfl, rfl⟩
theorem good_snoc (key : List Int) (e : Ent) (t : List Int) : ∀ (F : List Fr) (a : List Int) (n : Int), goodS key a n F = F.length → t = tagS key (msgS (lastT a F) (n + F.length) e.f0 e.f1).1 → goodS key a n (F ++ [(e, t)]) = (F ++ [(e, t)]).length
  | [], a, n, _, ht => by
    rw [List.nil_append, goodS, if_pos (by rw [ht]; simp [LChain.lastT])]
    rfl
  | f :: F, a, n, hg, ht => by
    rw [goodS] at hg
    by_cases h : tagS key (msgS a n f.1.f0 f.1.f1).1 = f.2
    · rw [if_pos h, List.length_cons] at hg
      rw [List.cons_append, goodS, if_pos h, List.length_cons, good_snoc key e t F f.2 (n + 1) (by omega) (by rw [ht, LChain.lastT, List.length_cons]; congr 3; omega)]
    · rw [if_neg h, List.length_cons] at hg
      omega
theorem last_snoc (e : Ent) (t : List Int) : ∀ (F : List Fr) (a : List Int), LChain.lastT a (F ++ [(e, t)]) = t
  | [], a => rfl
  | f :: F, a => by rw [List.cons_append, LChain.lastT, last_snoc e t F f.2]
theorem built_snoc (key bs : List Int) (L : List Ent) (t : List Int) (h : Built key bs L t) (e : Ent) (t' : List Int) (hf : FrOk (e, t')) (ht : t' = tagS key (msgS t ((L.length : Int) + 1) e.f0 e.f1).1) : Built key (bs ++ frB (e, t')) (L ++ [e]) t' := by
  obtain ⟨F, h1, h2, h3, h4, h5⟩ := h
  refine ⟨F ++ [(e, t')], by rw [List.map_append, h1]; rfl, by rw [byF_append, h2]; simp [byF], ?_, good_snoc key e t' F zeroT 1 h4 ?_, (last_snoc e t' F zeroT).symm⟩
  · intro f hf'
    rcases List.mem_append.1 hf' with h | h
    · exact h3 f h
    · rw [List.mem_singleton.1 h]; exact hf
  · rw [ht, h5, ← h1, List.length_map, Int.add_comm]
theorem built_ver (key bs : List Int) (L : List Ent) (t : List Int) (h : Built key bs L t) (hl : bs.length < 1000000) : verS key bs (L.length : Int) t = true := by
  obtain ⟨F, h1, h2, h3, h4, h5⟩ := h
  unfold verS
  rw [h2, ent_by key F h3 (by rw [← h2]; exact hl) h4, ← h1, h5]
  simp
/-- what is found is right -/
theorem opn_built (key log : List Int) (hB : Byt log) (hl : log.length ≤ 65536) : ∀ (N : Nat) (a : Int) (t : List Int) (L : List Ent), Way log a t L → Built key (log.take a.toNat) L t →
    Built key (log.take (opn key log N a t L).2.2.toNat) (opn key log N a t L).1 (opn key log N a t L).2.1
  | 0, a, t, L, hw, h => h
  | N + 1, a, t, L, hw, h => by
    rw [opn]
    split
    · split
      · exact h
      · rename_i R hR
        split
        · rename_i h0
          obtain ⟨hw2, hlt, hfo⟩ := way_step log hB hl a t L hw R hR h0.1
          refine opn_built key log hB hl N _ _ _ hw2 ?_
          have hs := built_snoc key _ L t h ⟨R.1, R.2.1⟩ R.2.2.1 hfo h0.2.symm
          obtain ⟨R', hR', _, hF⟩ := LEnt.read_both log hB (by omega) a
          obtain rfl : R' = R := Option.some.inj (hR'.symm.trans hR)
          obtain ⟨_, _, _, hfr⟩ := hF h0.1
          have e : frB (⟨R'.1, R'.2.1⟩, R'.2.2.1) = (log.take R'.2.2.2.1.toNat).drop a.toNat := by unfold frB; simp only; rw [hfr]
          rw [e] at hs
          have ha := hw.a0
          have e2 : log.take a.toNat ++ (log.take R'.2.2.2.1.toNat).drop a.toNat = log.take R'.2.2.2.1.toNat := by
            have := List.take_append_drop a.toNat (log.take R'.2.2.2.1.toNat)
            rwa [List.take_take, Nat.min_eq_left (by omega)] at this
          rw [e2] at hs
          exact hs
        · exact h
    · exact h
/-- a journal whose log is right -/
def Right (s : St) : Prop := Good s ∧ Built s.key s.bs s.L s.tag
theorem openS_right (key : List Int) (room sure : Int) (bs : List Int) (hr0 : 0 ≤ room) (hr1 : room ≤ 65536) (hb : (bs.length : Int) ≤ room) (hs : 0 ≤ sure) (hB : Byt bs) (hk : Byt key) (hkl : key.length ≤ 1000) : Right (openS key room sure bs) := by
  refine ⟨openS_good key room sure bs hr0 hr1 hb hs hB hk hkl, ?_⟩
  have hw := opn_way key bs hB (by omega) (bs.length + 1) 0 zeroT [] (way0 bs)
  have h := opn_built key bs hB (by omega) (bs.length + 1) 0 zeroT [] (way0 bs) (built_nil key)
  unfold openS
  simp only
  rw [held_way _ _ hw.a0 hw.a1]
  exact h
end Go.Proofs.Ytogjnipojakfjaa.JJour
