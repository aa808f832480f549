/- Journals over numbers and lists: the frames of a log, what is found when it is opened, and what a crash leaves. -/
import Derived.Test.YtogjnipojakfjaaJJour9
import Derived.Test.YtogjnipojakfjaaLEnt4
import Derived.Test.YtogjnipojakfjaaLChain3
import Derived.Test.YtogjnipojakfjaaPJrx4
import Derived.Test.YtogjnipojakfjaaPJrx13
import Derived.Test.YtogjnipojakfjaaPJrx14
namespace Go.Proofs.Ytogjnipojakfjaa.JJour
open Go.RowKit Go.Proofs.Ytogjnipojakfjaa.PJr Go.Proofs.YtogjnipojakfjaaW.PrintWords Go.Proofs.YtogjnipojakfjaaW.PrintLast Go.Proofs.YtogjnipojakfjaaW.PrintMore
open LSame (Byt)
open LChain (msgS tagS zeroT Fr FrOk goodS lastT frs frsOf entS verS)
open DDev (heldN)
set_option linter.unusedVariables false
set_option linter.unusedSimpArgs false
/-- a frame's bytes, and those of frames -/
def frB (f : Fr) : List Int := (LEnt.frS f.1.f0 f.1.f1 f.2).1
def byF : List Fr → List Int
  | [] => []
  | f :: F => frB f ++ byF F
theorem frB_ok (f : Fr) (h : FrOk f) : LEnt.frS f.1.f0 f.1.f1 f.2 = (frB f, 0) ∧ frB f = entry_length.bytes ((f.1.f1.length + 1 : Nat) : Int) ++ (f.1.f0 :: f.1.f1) ++ f.2 ∧ (frB f).length = f.1.f1.length + 37 ∧ Byt (frB f) := by
  have hf := LEnt.frS_mk f.1.f0 f.1.f1 f.2 h.k1 h.k2 h.b h.t
  obtain ⟨_, fl, fb⟩ := frS_fine f.1 f.2 h.bb h.t h.tb ⟨h.k1, h.k2, h.b⟩
  refine ⟨by unfold frB; rw [hf], by unfold frB; rw [hf], fl, fb⟩
theorem byF_append : ∀ (F G : List Fr), byF (F ++ G) = byF F ++ byF G
  | [], G => rfl
  | f :: F, G => by rw [List.cons_append, byF, byF, byF_append F G, List.append_assoc]
theorem byF_byt : ∀ F : List Fr, (∀ f ∈ F, FrOk f) → Byt (byF F)
  | [], _ => Byt.nil
  | f :: F, h => (frB_ok f (h f List.mem_cons_self)).2.2.2.append (byF_byt F (fun g hg => h g (List.mem_cons_of_mem _ hg)))
theorem byF_len : ∀ F : List Fr, (∀ f ∈ F, FrOk f) → 37 * F.length ≤ (byF F).length
  | [], _ => Nat.le_refl _
  | f :: F, h => by
    have h1 := (frB_ok f (h f List.mem_cons_self)).2.2.1
    have h2 := byF_len F (fun g hg => h g (List.mem_cons_of_mem _ hg))
    rw [byF, List.length_append, List.length_cons]
    omega
theorem read_by (pre : List Int) (f : Fr) (hf : FrOk f) (post : List Int) (hp : pre.length + post.length < 100000000000) : entry_Read.f (pre ++ (frB f ++ post)) (pre.length : Int) = some (f.1.f0, f.1.f1, f.2, ((pre.length + (frB f).length : Nat) : Int), 0) := by
  have h := LEnt.read_frame pre post f.1.f0 f.1.f1 f.2 hf.k1 hf.k2 hf.b hf.t hp
  rw [← (frB_ok f hf).2.1, List.append_assoc] at h
  exact h
theorem frs_by : ∀ (F : List Fr) (pre : List Int) (N : Nat), (∀ f ∈ F, FrOk f) → pre.length + (byF F).length < 100000000 → F.length < N → frs (pre ++ byF F) N (pre.length : Int) = (F, 0)
  | [], pre, N, _, _, hN => by
    obtain ⟨M, rfl⟩ : ∃ M, N = M + 1 := ⟨N - 1, by simp at hN; omega⟩
    rw [frs]
    simp [byF]
  | f :: F, pre, N, hF, hp, hN => by
    obtain ⟨M, rfl⟩ : ∃ M, N = M + 1 := ⟨N - 1, by omega⟩
    have hf := hF f List.mem_cons_self
    obtain ⟨h1, h2, h3, h4⟩ := frB_ok f hf
    rw [byF, List.length_append] at hp
    rw [List.length_cons] at hN
    have hR := read_by pre f hf (byF F) (by omega)
    have ih := frs_by F (pre ++ frB f) M (fun g hg => hF g (List.mem_cons_of_mem _ hg)) (by rw [List.length_append]; omega) (by omega)
    rw [List.length_append, List.append_assoc] at ih
    rw [byF, frs, hR, if_pos (by simp only [List.length_append]; omega)]
    simp only [if_true]
    rw [ih]
theorem ent_by (key : List Int) (F : List Fr) (hF : ∀ f ∈ F, FrOk f) (hl : (byF F).length < 1000000) (hg : goodS key zeroT 1 F = F.length) : entS key (byF F) = (F.map (·.1), LChain.lastT zeroT F, 0) := by
  have hb := byF_len F hF
  have h : frsOf (byF F) = (F, 0) := frs_by F [] ((byF F).length + 1) hF (by simp; omega) (by omega)
  unfold entS
  rw [h, if_neg (by simp only; omega), if_pos rfl]
/-- a log that is right: its entries, and its last tag -/
def Built (key bs : List Int) (L : List Ent) (t : List Int) : Prop := ∃ F : List Fr, F.map (·.1) = L ∧ bs = byF F ∧ (∀ f ∈ F, FrOk f) ∧ goodS key zeroT 1 F = F.length ∧ t = LChain.lastT zeroT F
theorem built_nil (key : List Int) : Built key [] [] zeroT := ⟨[], rfl, rfl, fun _ h => absurd h (by simp), rfl, rfl⟩
theorem good_snoc (key : List Int) (e : Ent) (t : List Int) : ∀ (F : List Fr) (a : List Int) (n : Int), goodS key a n F = F.length → t = tagS key (msgS (lastT a F) (n + F.length) e.f0 e.f1).1 → goodS key a n (F ++ [(e, t)]) = (F ++ [(e, t)]).length
  | [], a, n, _, ht => by
    rw [List.nil_append, goodS, if_pos (by rw [ht]; simp [LChain.lastT])]
    rfl
  | f :: F, a, n, hg, ht => by
    rw [goodS] at hg
    by_cases h : tagS key (msgS a n f.1.f0 f.1.f1).1 = f.2
    · rw [if_pos h, List.length_cons] at hg
      rw [List.cons_append, goodS, if_pos h, List.length_cons, good_snoc key e t F f.2 (n + 1) (by omega) (by rw [ht, LChain.lastT, List.length_cons]; congr 3; omega)]
    · rw [if_neg h, List.length_cons] at hg
      omega
theorem last_snoc (e : Ent) (t : List Int) : ∀ (F : List Fr) (a : List Int), LChain.lastT a (F ++ [(e, t)]) = t
  | [], a => rfl
  | f :: F, a => by rw [List.cons_append, LChain.lastT, last_snoc e t F f.2]
theorem built_snoc (key bs : List Int) (L : List Ent) (t : List Int) (h : Built key bs L t) (e : Ent) (t' : List Int) (hf : FrOk (e, t')) (ht : t' = tagS key (msgS t ((L.length : Int) + 1) e.f0 e.f1).1) : Built key (bs ++ frB (e, t')) (L ++ [e]) t' := by
  obtain ⟨F, h1, h2, h3, h4, h5⟩ := h
  refine ⟨F ++ [(e, t')], by rw [List.map_append, h1]; rfl, by rw [byF_append, h2]; simp [byF], ?_, good_snoc key e t' F zeroT 1 h4 ?_, (last_snoc e t' F zeroT).symm⟩
  · intro f hf'
    rcases List.mem_append.1 hf' with h | h
    · exact h3 f h
    · rw [List.mem_singleton.1 h]; exact hf
  · rw [ht, h5, ← h1, List.length_map, Int.add_comm]
theorem built_ver (key bs : List Int) (L : List Ent) (t : List Int) (h : Built key bs L t) (hl : bs.length < 1000000) : verS key bs (L.length : Int) t = true := by
  obtain ⟨F, h1, h2, h3, h4, h5⟩ := h
  unfold verS
  rw [h2, ent_by key F h3 (by rw [← h2]; exact hl) h4, ← h1, h5]
  simp
/-- what is found is right -/
theorem opn_built (key log : List Int) (hB : Byt log) (hl : log.length ≤ 65536) : ∀ (N : Nat) (a : Int) (t : List Int) (L : List Ent), Way log a t L → Built key (log.take a.toNat) L t →
    Built key (log.take (opn key log N a t L).2.2.toNat) (opn key log N a t L).1 (opn key log N a t L).2.1
  | 0, a, t, L, hw, h => h
  | N + 1, a, t, L, hw, h => by
    rw [opn]
    split
    · split
      · exact h
      · rename_i R hR
        split
        · rename_i h0
          obtain ⟨hw2, hlt, hfo⟩ := way_step log hB hl a t L hw R hR h0.1
          refine opn_built key log hB hl N _ _ _ hw2 ?_
          have hs := built_snoc key _ L t h ⟨R.1, R.2.1⟩ R.2.2.1 hfo h0.2.symm
          obtain ⟨R', hR', _, hF⟩ := LEnt.read_both log hB (by omega) a
          obtain rfl : R' = R := Option.some.inj (hR'.symm.trans hR)
          obtain ⟨_, _, _, hfr⟩ := hF h0.1
          have e : frB (⟨R'.1, R'.2.1⟩, R'.2.2.1) = (log.take R'.2.2.2.1.toNat).drop a.toNat := by unfold frB; simp only; rw [hfr]
          rw [e] at hs
          have ha := hw.a0
          have e2 : log.take a.toNat ++ (log.take R'.2.2.2.1.toNat).drop a.toNat = log.take R'.2.2.2.1.toNat := by
            have := List.take_append_drop a.toNat (log.take R'.2.2.2.1.toNat)
            rwa [List.take_take, Nat.min_eq_left (by omega)] at this
          rw [e2] at hs
          exact hs
        · exact h
    · exact h
/-- a journal whose log is right -/
def Right (s : St) : Prop := Good s ∧ Built s.key s.bs s.L s.tag
theorem openS_right (key : List Int) (room sure : Int) (bs : List Int) (hr0 : 0 ≤ room) (hr1 : room ≤ 65536) (hb : (bs.length : Int) ≤ room) (hs : 0 ≤ sure) (hB : Byt bs) (hk : Byt key) (hkl : key.length ≤ 1000) : Right (openS key room sure bs) := by
  refine ⟨openS_good key room sure bs hr0 hr1 hb hs hB hk hkl, ?_⟩
  have hw := opn_way key bs hB (by omega) (bs.length + 1) 0 zeroT [] (way0 bs)
  have h := opn_built key bs hB (by omega) (bs.length + 1) 0 zeroT [] (way0 bs) (built_nil key)
  unfold openS
  simp only
  rw [held_way _ _ hw.a0 hw.a1]
  exact h
theorem appS_right (s : St) (e : Ent) (h : Right s) (heb : Byt e.f1) : Right (appS s e).2 := by
  refine ⟨appS_good s e h.1 heb, ?_⟩
  unfold appS
  split
  · rename_i h0
    obtain ⟨mb, ml⟩ := msg_fine s.tag ((s.n : Int) + 1) e.f0 e.f1 h.1.tb heb h0
    obtain ⟨tl, tb, _, _⟩ := LChain.tagS_spec s.key _ h.1.kb h.1.kl mb (by omega)
    obtain ⟨_, e1, e2, e3⟩ := msg_inv _ _ _ _ h0
    split
    · exact h.2
    · exact built_snoc s.key s.bs s.L s.tag h.2 e (tagS s.key (msgS s.tag ((s.n : Int) + 1) e.f0 e.f1).1) ⟨e1, e2, e3, heb, tl, tb⟩ (by rw [h.1.nl])
  · exact h.2
theorem bytes_inj (a b : Nat) (ha : a < 65536) (hb : b < 65536) (h : entry_length.bytes (a : Int) = entry_length.bytes (b : Int)) : a = b := by
  unfold entry_length.bytes at h
  simp only [List.cons.injEq] at h
  omega
/-- a frame that is not whole is not read -/
theorem torn (pre : List Int) (f : Fr) (hf : FrOk f) (n : Nat) (hn : n < (frB f).length) (hB : Byt (pre ++ (frB f).take n)) (hl : (pre ++ (frB f).take n).length < 1000000) : ∃ R : LEnt.Rec, entry_Read.f (pre ++ (frB f).take n) (pre.length : Int) = some R ∧ R.2.2.2.2 ≠ 0 := by
  obtain ⟨R, hR, _, hF⟩ := LEnt.read_both _ hB (by omega) (pre.length : Int)
  refine ⟨R, hR, fun h => ?_⟩
  obtain ⟨g1, g2, g3, g4⟩ := hF h
  obtain ⟨k1, k2, b1, t1, e1⟩ := LEnt.frS_ok R.1 R.2.1 R.2.2.1 (by rw [g4])
  rw [g4] at e1
  simp only at e1
  obtain ⟨_, f1, f2, _⟩ := frB_ok f hf
  have hfb := hf.b
  have hd : ((pre ++ (frB f).take n).take R.2.2.2.1.toNat).drop (pre.length : Int).toNat = (frB f).take (min (R.2.2.2.1.toNat - pre.length) n) := by
    rw [Int.toNat_natCast, List.drop_take, List.drop_left, List.take_take]
  rw [hd] at e1
  have hl4 : ∀ x, (entry_length.bytes x).length = 4 := fun x => rfl
  have hlen := congrArg List.length e1
  simp only [List.length_append, List.length_take, List.length_cons, hl4] at hlen
  have h4 := congrArg (List.take 4) e1
  rw [List.take_take, Nat.min_eq_left (by omega), f1, List.append_assoc, List.append_assoc, List.take_left' (hl4 _), List.take_left' (hl4 _)] at h4
  have := bytes_inj _ _ (by omega) (by omega) h4
  omega
/-- what is found when some of the bytes are left -/
theorem opn_crash (key : List Int) : ∀ (G : List Fr) (pre : List Int) (m N : Nat) (t : List Int) (L : List Ent), (∀ f ∈ G, FrOk f) → goodS key t ((L.length : Int) + 1) G = G.length → Byt pre → pre.length + (byF G).length < 1000000 → ((byF G).take m).length < N →
    ∃ j, j ≤ G.length ∧ opn key (pre ++ (byF G).take m) N (pre.length : Int) t L = (L ++ (G.take j).map (·.1), LChain.lastT t (G.take j), ((pre.length + (byF (G.take j)).length : Nat) : Int)) ∧ ∀ i, i ≤ G.length → (byF (G.take i)).length ≤ m → i ≤ j
  | [], pre, m, N, t, L, hG, hg, hB, hl, hN => by
    obtain ⟨M, rfl⟩ : ∃ M, N = M + 1 := ⟨N - 1, by omega⟩
    refine ⟨0, Nat.le_refl _, ?_, fun i h _ => h⟩
    rw [opn]
    simp [byF, LChain.lastT]
  | f :: G, pre, m, N, t, L, hG, hg, hB, hl, hN => by
    obtain ⟨M, rfl⟩ : ∃ M, N = M + 1 := ⟨N - 1, by omega⟩
    have hf := hG f List.mem_cons_self
    obtain ⟨_, _, f2, f3⟩ := frB_ok f hf
    rw [byF, List.length_append] at hl
    rw [goodS] at hg
    by_cases ht : tagS key (msgS t ((L.length : Int) + 1) f.1.f0 f.1.f1).1 = f.2
    case neg =>
      rw [if_neg ht, List.length_cons] at hg
      omega
    rw [if_pos ht, List.length_cons] at hg
    by_cases hm : (frB f).length ≤ m
    · have et : (byF (f :: G)).take m = frB f ++ (byF G).take (m - (frB f).length) := by
        rw [byF, List.take_append, List.take_of_length_le hm]
      rw [et, List.length_append] at hN
      obtain ⟨j, hj, ho, hi⟩ := opn_crash key G (pre ++ frB f) (m - (frB f).length) M f.2 (L ++ [f.1]) (fun g hg => hG g (List.mem_cons_of_mem _ hg)) (by rw [List.length_append, List.length_singleton]; push_cast; omega) (hB.append f3) (by rw [List.length_append]; omega) (by omega)
      refine ⟨j + 1, by simp; omega, ?_, ?_⟩
      · have hR := read_by pre f hf ((byF G).take (m - (frB f).length)) (by rw [List.length_take]; omega)
        rw [List.length_append, List.append_assoc] at ho
        rw [et, opn, hR, if_pos (by simp only [List.length_append]; omega)]
        simp only
        rw [if_pos ⟨trivial, ht⟩, ho]
        simp [byF, LChain.lastT, Nat.add_assoc]
      · intro i hi1 hi2
        cases i with
        | zero => omega
        | succ i =>
          rw [List.take_succ_cons, byF, List.length_append] at hi2
          have := hi i (by simpa using hi1) (by omega)
          omega
    · have et : (byF (f :: G)).take m = (frB f).take m := by rw [byF, List.take_append_of_le_length (by omega)]
      refine ⟨0, Nat.zero_le _, ?_, fun i hi1 hi2 => ?_⟩
      · have z : (L, t, (pre.length : Int)) = (L ++ ((f :: G).take 0).map (·.1), LChain.lastT t ((f :: G).take 0), ((pre.length + (byF ((f :: G).take 0)).length : Nat) : Int)) := by simp [byF, LChain.lastT]
        rw [← z, et, opn]
        obtain ⟨R, hR, hne⟩ := torn pre f hf m (by omega) (hB.append (f3.take m)) (by rw [List.length_append, List.length_take]; omega)
        rw [hR]
        simp only
        split
        · split
          · rename_i h
            exact absurd h.1 hne
          · rfl
        · rfl
      · cases i with
        | zero => exact Nat.le_refl _
        | succ i =>
          rw [List.take_succ_cons, byF, List.length_append] at hi2
          omega
theorem byF_ub : ∀ F : List Fr, (∀ f ∈ F, FrOk f) → (byF F).length ≤ 1061 * F.length
  | [], _ => Nat.le_refl _
  | f :: F, h => by
    have hf := h f List.mem_cons_self
    have h1 := (frB_ok f hf).2.2.1
    have h0 := hf.b
    have h2 := byF_ub F (fun g hg => h g (List.mem_cons_of_mem _ hg))
    rw [byF, List.length_append, List.length_cons]
    omega
/-- a journal's frames, and how many of them are sure -/
def Held (s : St) (F : List Fr) (k : Nat) : Prop := Good s ∧ s.L = F.map (·.1) ∧ s.bs = byF F ∧ (∀ f ∈ F, FrOk f) ∧ goodS s.key zeroT 1 F = F.length ∧ s.tag = LChain.lastT zeroT F ∧ k ≤ F.length ∧ s.sure = ((byF (F.take k)).length : Int)
theorem held_app (s : St) (F : List Fr) (k : Nat) (e : Ent) (s' : St) (h : Held s F k) (heb : Byt e.f1) (ha : appS s e = (0, s')) : ∃ f : Fr, f.1 = e ∧ Held s' (F ++ [f]) k ∧ s'.n = s.n + 1 ∧ s'.room = s.room ∧ s'.key = s.key := by
  obtain ⟨hG, h1, h2, h3, h4, h5, h6, h7⟩ := h
  have hg := appS_good s e hG heb
  rw [ha] at hg
  unfold appS at ha
  split at ha
  · rename_i h0
    obtain ⟨mb, ml⟩ := msg_fine s.tag ((s.n : Int) + 1) e.f0 e.f1 hG.tb heb h0
    obtain ⟨tl, tb, _, _⟩ := LChain.tagS_spec s.key _ hG.kb hG.kl mb (by omega)
    obtain ⟨_, e1, e2, e3⟩ := msg_inv _ _ _ _ h0
    split at ha
    · simp at ha
    · obtain rfl := (Prod.mk.inj ha).2
      have hn : (s.n : Int) + 1 = (F.length : Int) + 1 := by rw [hG.nl, h1, List.length_map]
      refine ⟨(e, tagS s.key (msgS s.tag ((s.n : Int) + 1) e.f0 e.f1).1), rfl, ⟨hg, ?_, ?_, ?_, ?_, ?_, ?_, ?_⟩, rfl, rfl, rfl⟩
      · simp only [List.map_append, h1]; rfl
      · simp only [byF_append, h2, byF, List.append_nil]; rfl
      · intro f hf'
        rcases List.mem_append.1 hf' with h | h
        · exact h3 f h
        · rw [List.mem_singleton.1 h]; exact ⟨e1, e2, e3, heb, tl, tb⟩
      · exact good_snoc s.key e _ F zeroT 1 h4 (by rw [← h5, hn, Int.add_comm])
      · exact (last_snoc e _ F zeroT).symm
      · rw [List.length_append]; omega
      · simp only [h7, List.take_append_of_le_length h6]
  · rename_i h0
    exact absurd (Prod.mk.inj ha).1 h0
theorem held_sync (s : St) (F : List Fr) (k : Nat) (h : Held s F k) : Held { s with sure := (s.bs.length : Int) } F F.length := by
  obtain ⟨hG, h1, h2, h3, h4, h5, h6, h7⟩ := h
  refine ⟨⟨hG.r0, hG.r1, hG.b0, by simp, by simp, hG.bb, hG.tl, hG.tb, hG.kl, hG.kb, hG.nl, hG.nb, hG.le⟩, h1, h2, h3, h4, h5, Nat.le_refl _, ?_⟩
  simp only [h2, List.take_length]
/-- what a crash leaves of a journal -/
theorem held_crash (s : St) (F : List Fr) (k m : Nat) (su : Int) (h : Held s F k) (hF : F.length ≤ 20) (hm : s.sure ≤ m) (hsu : 0 ≤ su) : ∃ j, k ≤ j ∧ j ≤ F.length ∧ (openS s.key s.room su (s.bs.take m)).L = (F.map (·.1)).take j ∧ (openS s.key s.room su (s.bs.take m)).n = j ∧ Right (openS s.key s.room su (s.bs.take m)) ∧ (openS s.key s.room su (s.bs.take m)).bs.length ≤ 21220 := by
  obtain ⟨hG, h1, h2, h3, h4, h5, h6, h7⟩ := h
  have hub := byF_ub F h3
  have hlt : (s.bs.take m).length ≤ 21220 := by rw [h2, List.length_take]; omega
  obtain ⟨j, hj, ho, hi⟩ := opn_crash s.key F [] m ((s.bs.take m).length + 1) zeroT [] h3 (by simpa using h4) Byt.nil (by simp; omega) (by rw [h2]; omega)
  have ho' : opn s.key (s.bs.take m) ((s.bs.take m).length + 1) 0 zeroT [] = ((F.take j).map (·.1), LChain.lastT zeroT (F.take j), ((byF (F.take j)).length : Int)) := by
    rw [h2] at ho ⊢
    simpa using ho
  have hr := openS_right s.key s.room su (s.bs.take m) hG.r0 hG.r1 (by have := hG.b0; rw [List.length_take]; omega) (by omega) (hG.bb.take m) hG.kb hG.kl
  have hL : (openS s.key s.room su (s.bs.take m)).L = (F.take j).map (·.1) := congrArg (fun x => x.1) ho'
  refine ⟨j, hi k h6 (by omega), hj, by rw [hL, List.map_take], by rw [hr.1.nl, hL]; simp; omega, hr, ?_⟩
  unfold openS
  simp only [List.length_take] at hlt ⊢
  omega
/-- an entry more where there is room for it -/
theorem app_fits (s : St) (h : Right s) (hl : s.bs.length ≤ 21220) (hr : s.room = 65536) : ∃ s', appS s ⟨1, [5]⟩ = (0, s') ∧ s'.n = s.n + 1 ∧ Right s' ∧ s'.key = s.key := by
  have ht := appS_right s ⟨1, [5]⟩ h (Byt.cons (by decide) (by decide) Byt.nil)
  have h0 : (msgS s.tag ((s.n : Int) + 1) 1 [5]).2 = 0 := by
    unfold msgS LEnt.payS
    rw [if_pos h.1.tl]
    rfl
  obtain ⟨mb, ml⟩ := msg_fine s.tag ((s.n : Int) + 1) 1 [5] h.1.tb (Byt.cons (by decide) (by decide) Byt.nil) h0
  obtain ⟨tl, tb, _, _⟩ := LChain.tagS_spec s.key _ h.1.kb h.1.kl mb (by omega)
  obtain ⟨_, fl, fb⟩ := frS_fine ⟨1, [5]⟩ _ (Byt.cons (by decide) (by decide) Byt.nil) tl tb ⟨by decide, by decide, by decide⟩
  have hap : (appS s ⟨1, [5]⟩).1 = 0 ∧ (appS s ⟨1, [5]⟩).2.n = s.n + 1 ∧ (appS s ⟨1, [5]⟩).2.key = s.key := by
    unfold appS
    simp only at fl ⊢
    rw [if_pos h0, if_neg (by rw [fl, hr]; simp; omega)]
    exact ⟨rfl, rfl, rfl⟩
  exact ⟨(appS s ⟨1, [5]⟩).2, Prod.ext hap.1 rfl, hap.2.1, ht, hap.2.2⟩
end Go.Proofs.Ytogjnipojakfjaa.JJour
