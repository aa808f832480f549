/- Logs, plainly: the entries of a log, by the program and by the reference. -/
import Derived.Test.YtogjnipojakfjaaLChain
import Derived.Test.YtogjnipojakfjaaPJvx3
import Derived.Test.YtogjnipojakfjaaPJvx5
import Derived.Test.YtogjnipojakfjaaPJvx11
import Derived.Test.YtogjnipojakfjaaPJvx14
namespace Go.Proofs.Ytogjnipojakfjaa.LChain
open Go.RowKit Go.Proofs.Ytogjnipojakfjaa.PJv Go.Proofs.YtogjnipojakfjaaW.PrintWords Go.Proofs.YtogjnipojakfjaaW.PrintLast Go.Proofs.YtogjnipojakfjaaW.PrintMore
open LSame (Byt)
set_option linter.unusedVariables false
set_option linter.unusedSimpArgs false
/-- how many of the first frames have the right tags -/
noncomputable def goodS (key : List Int) : List Int → Int → List Fr → Nat
  | _, _, [] => 0
  | a, n, f :: F => if tagS key (msgS a n f.1.f0 f.1.f1).1 = f.2 then goodS key f.2 (n + 1) F + 1 else 0
def lastT : List Int → List Fr → List Int
  | a, [] => a
  | _, f :: F => lastT f.2 F
theorem msgS_byt (ahead : List Int) (n : Int) (f : Fr) (hf : FrOk f) (ha : Byt ahead) (hal : ahead.length = 32) : Byt (msgS ahead n f.1.f0 f.1.f1).1 ∧ (msgS ahead n f.1.f0 f.1.f1).1.length ≤ 2000 ∧ (msgS ahead n f.1.f0 f.1.f1).2 = 0 := by
  rw [msgS_ok ahead n _ _ hal hf.k1 hf.k2 hf.b]
  have h1 := hf.k1
  have h2 := hf.k2
  have h3 := hf.b
  have h8 : (LTail.be8 n).length = 8 := rfl
  exact ⟨(ha.append (LTail.be8_byt n)).append (Byt.cons (by omega) (by omega) hf.bb), by simp only [List.length_append, List.length_cons, h8]; omega, rfl⟩
theorem lastT_byt : ∀ (F : List Fr) (a : List Int), Byt a → (∀ f ∈ F, FrOk f) → Byt (lastT a F)
  | [], _, h, _ => h
  | f :: F, _, _, h => lastT_byt F f.2 (h f List.mem_cons_self).tb (fun g hg => h g (List.mem_cons_of_mem _ hg))
theorem lastT_len : ∀ (F : List Fr) (a : List Int), a.length = 32 → (∀ f ∈ F, FrOk f) → (lastT a F).length = 32
  | [], _, h, _ => h
  | f :: F, _, _, h => lastT_len F f.2 (h f List.mem_cons_self).t (fun g hg => h g (List.mem_cons_of_mem _ hg))
def zeroT : List Int := List.replicate 32 0
theorem zeroT_byt : Byt zeroT := Byt.zeros _
theorem zeroT_len : zeroT.length = 32 := List.length_replicate ..
theorem first_ok : chain_First.f = some zeroT := rfl
theorem rfirst_ok : notaryref47_First.f = some zeroT := rfl
abbrev frsOf (log : List Int) : List Fr × Int := frs log (log.length + 1) 0
/-- the entries of a log, its last tag; or what is wrong -/
noncomputable def entS (key log : List Int) : List S35 × List Int × Int :=
  if goodS key zeroT 1 (frsOf log).1 < (frsOf log).1.length then ([], [], 29) else if (frsOf log).2 = 0 then ((frsOf log).1.map (·.1), lastT zeroT (frsOf log).1, 0) else ([], [], (frsOf log).2)
/-- the reference -/
theorem frames_ev (log : List Int) (hB : Byt log) (hl : log.length ≤ 1000000) :
    ∀ (N : Nat) (a : Int) (L : List S35) (T : List (List Int)), (log.length : Int) - a < N → 0 ≤ a → a ≤ (log.length : Int) → L.length ≤ a → T.length ≤ a →
    Ev (fun m => notaryref47_Frames.l0 m log L T a) (L ++ (frs log N a).1.map (·.1), T ++ (frs log N a).1.map (·.2), (frs log N a).2)
  | 0, a, L, T => fun h h0 h1 _ _ => by omega
  | N + 1, a, L, T => fun hN h0 h1 hL hT => by
    by_cases h2 : a < (log.length : Int)
    · obtain ⟨R, hR, hE, _⟩ := LEnt.read_both log hB (by omega) a
      have hq : frs log (N + 1) a = if R.2.2.2.2 = 0 then ((⟨R.1, R.2.1⟩, R.2.2.1) :: (frs log N R.2.2.2.1).1, (frs log N R.2.2.2.1).2) else ([], R.2.2.2.2) := by rw [frs, hR, if_pos h2]
      by_cases h3 : R.2.2.2.2 = 0
      · obtain ⟨hf, _, g1, g2⟩ := read_fine log hB (by omega) a R hR h3
        rw [if_pos h3] at hq
        refine Ev.step (fun m => notaryref47_Frames.l0.eq_2 ..) (LEv.pos h2 (LEv.bd R hE (LEv.pos h3 (LEv.pos (by omega) (LEv.pos (by omega) (LEv.val ?_ (frames_ev log hB hl N R.2.2.2.1 _ _ (by omega) (by omega) g2 (by simp; omega) (by simp; omega))))))))
        rw [hq]
        simp
      · rw [if_neg h3] at hq
        refine Ev.step (fun m => notaryref47_Frames.l0.eq_2 ..) (LEv.pos h2 (LEv.bd R hE (LEv.neg h3 (LEv.fin ?_))))
        rw [hq]
        simp
    · have hq : frs log (N + 1) a = ([], 0) := by rw [frs, if_neg h2]
      refine Ev.step (fun m => notaryref47_Frames.l0.eq_2 ..) (LEv.neg h2 (LEv.fin ?_))
      rw [hq]
      simp
theorem rframes_ev (log : List Int) (hB : Byt log) (hl : log.length ≤ 1000000) : Ev (fun m => notaryref47_Frames.f m log) ((frsOf log).1.map (·.1), (frsOf log).1.map (·.2), (frsOf log).2) :=
  Ev.congr (fun m => notaryref47_Frames.f.eq_1 ..) (LEv.val (by simp) (frames_ev log hB hl (log.length + 1) 0 [] [] (by omega) (by omega) (by omega) (by simp) (by simp)))
theorem rd_ent (pre : List Fr) (f : Fr) (F : List Fr) : rd_T35 ((pre ++ f :: F).map (·.1)) (pre.length : Int) = f.1 := by
  unfold rd_T35
  rw [Int.toNat_natCast, List.getD_eq_getElem?_getD, List.getElem?_map, List.getElem?_append_right (Nat.le_refl _)]
  simp
theorem next_ev (key ahead : List Int) (n : Int) (f : Fr) (hf : FrOk f) (hk : Byt key) (hkl : key.length ≤ 1000) (ha : Byt ahead) (hal : ahead.length = 32) (h0 : 0 ≤ n) (h1 : n < 1000000000) : Ev (fun m => notaryref47_Next.f m key ahead n f.1.f0 f.1.f1) (tagS key (msgS ahead n f.1.f0 f.1.f1).1) := by
  obtain ⟨mb, ml, _⟩ := msgS_byt ahead n f hf ha hal
  refine Ev.congr (fun m => notaryref47_Next.f.eq_1 ..) (LEv.arg (b := n) (g := fun m x => (notaryref47_Message.f m ahead x f.1.f0 f.1.f1).bind _) (by rw [LSame.u64w]; omega) (LEv.bd _ (rmessage_ev ahead n h0 (by omega) f.1.f0 f.1.f1) (LEv.bd _ (tagS_spec key _ hk hkl mb (by omega)).2.2.2 (Ev.now _))))
theorem rd_tag (pre : List Fr) (f : Fr) (F : List Fr) : ((pre ++ f :: F).map (·.2)).getD (pre.length : Int).toNat [] = f.2 := by
  rw [Int.toNat_natCast, List.getD_eq_getElem?_getD, List.getElem?_map, List.getElem?_append_right (Nat.le_refl _)]
  simp
theorem right_ev (key : List Int) (hk : Byt key) (hkl : key.length ≤ 1000) : ∀ (F pre : List Fr) (ahead : List Int), (∀ f ∈ F, FrOk f) → (pre ++ F).length < 1000000 → ahead.length = 32 → Byt ahead →
    Ev (fun m => notaryref47_Right.l0 m key ((pre ++ F).map (·.1)) ((pre ++ F).map (·.2)) ahead (pre.length : Int)) ((pre.length + goodS key ahead ((pre.length + 1 : Nat) : Int) F : Nat) : Int)
  | [], pre, ahead => fun hF hlen hal hab => by
    refine Ev.step (fun m => notaryref47_Right.l0.eq_2 ..) (LEv.neg (by simp) (LEv.fin ?_))
    simp [goodS]
  | f :: F, pre, ahead => fun hF hlen hal hab => by
    have hf := hF f List.mem_cons_self
    rw [List.length_append, List.length_cons] at hlen
    have hn := next_ev key ahead ((pre.length + 1 : Nat) : Int) f hf hk hkl hab hal (by omega) (by omega)
    obtain ⟨mb, ml, _⟩ := msgS_byt ahead ((pre.length + 1 : Nat) : Int) f hf hab hal
    obtain ⟨tl, tb, _, _⟩ := tagS_spec key _ hk hkl mb (by omega)
    have hs := LSame.same_ev (tagS key (msgS ahead ((pre.length + 1 : Nat) : Int) f.1.f0 f.1.f1).1) f.2 (by omega)
    have hw : wrap64 ((pre.length : Int) + 1) = ((pre.length + 1 : Nat) : Int) := by rw [LEv.w64 _ (by omega) (by omega)]; omega
    have hx : ((pre.length : Nat) : Int) < (((pre ++ f :: F).map (·.1)).length : Int) := by simp; omega
    have hy : ((pre.length : Nat) : Int) < (((pre ++ f :: F).map (·.2)).length : Int) := by simp; omega
    have e1 := rd_ent pre f F
    have e2 := rd_tag pre f F
    rw [goodS]
    obtain ⟨L, hL⟩ : ∃ L, L = (pre ++ f :: F).map (·.1) := ⟨_, rfl⟩
    obtain ⟨T, hT⟩ : ∃ T, T = (pre ++ f :: F).map (·.2) := ⟨_, rfl⟩
    have ih := right_ev key hk hkl F (pre ++ [f]) f.2 (fun g hg => hF g (List.mem_cons_of_mem _ hg)) (by simp; omega) hf.t hf.tb
    rw [show (pre ++ [f]) ++ F = pre ++ f :: F by simp, ← hL, ← hT, show (pre ++ [f]).length = pre.length + 1 by simp] at ih
    rw [← hL] at e1 hx ⊢
    rw [← hT] at e2 hy ⊢
    refine Ev.step (fun m => notaryref47_Right.l0.eq_2 ..) (LEv.pos hx (LEv.pos (by omega) ?_))
    rw [hw, e1]
    refine LEv.bd _ hn (LEv.pos hy (LEv.bd (decide (tagS key (msgS ahead ((pre.length + 1 : Nat) : Int) f.1.f0 f.1.f1).1 = f.2)) ?_ ?_))
    · exact LEv.arg (g := fun m x => notaryref01_Same.f m _ x) e2 hs
    · by_cases hc : tagS key (msgS ahead ((pre.length + 1 : Nat) : Int) f.1.f0 f.1.f1).1 = f.2
      · rw [decide_eq_true hc, if_pos hc]
        refine LEv.pos rfl (LEv.arg (g := fun m x => notaryref47_Right.l0 m key L T x _) e2 (LEv.val ?_ ih))
        have : ((pre.length + 1 + 1 : Nat) : Int) = ((pre.length + 1 : Nat) : Int) + 1 := by omega
        rw [this]
        omega
      · rw [decide_eq_false hc, if_neg hc]
        exact LEv.neg (by decide) (LEv.fin (by simp))
theorem lastT_getD (F : List Fr) (a : List Int) (h : F.length ≠ 0) : (F.map (·.2)).getD (F.length - 1) [] = lastT a F := by
  induction F generalizing a with
  | nil => simp at h
  | cons f F ih =>
    rw [lastT]
    cases F with
    | nil => simp [lastT]
    | cons g G =>
      have := ih f.2 (by simp)
      simp only [List.map_cons, List.length_cons] at this ⊢
      rw [← this]
      simp
theorem rentries_ev (key log : List Int) (hk : Byt key) (hkl : key.length ≤ 1000) (hB : Byt log) (hl : log.length ≤ 1000000) : Ev (fun m => notaryref47_Entries.f m key log) (entS key log) := by
  have hF : ∀ f ∈ (frsOf log).1, FrOk f := frs_ok log hB (by omega) (log.length + 1) 0
  have hlen : 0 + 36 * ((frsOf log).1.length : Int) ≤ (log.length : Int) := frs_len log hB (by omega) (log.length + 1) 0 (by omega) (by omega)
  have hfr := rframes_ev log hB hl
  have hr := right_ev key hk hkl (frsOf log).1 [] zeroT hF (by simp; omega) zeroT_len zeroT_byt
  unfold entS
  obtain ⟨q, hq⟩ : ∃ q, q = frsOf log := ⟨_, rfl⟩
  rw [← hq] at hfr hr hF hlen ⊢
  simp only [List.nil_append, List.length_nil, Nat.zero_add] at hr
  refine Ev.congr (fun m => notaryref47_Entries.f.eq_1 ..) (LEv.bd _ hfr (LEv.bd _ (Ev.congr (fun m => notaryref47_Right.f.eq_1 ..) (LEv.eqb rfirst_ok hr)) ?_))
  by_cases hg : goodS key zeroT 1 q.1 < q.1.length
  · rw [if_pos hg]
    exact LEv.pos (by simp; exact hg) (Ev.now _)
  · rw [if_neg hg]
    refine LEv.neg (by simp; omega) ?_
    by_cases h0 : q.2 = 0
    · refine LEv.pos h0 ?_
      by_cases he : q.1.length = 0
      · refine LEv.pos (by simpa using he) (LEv.eqb rfirst_ok (LEv.fin ?_))
        rw [if_pos h0, List.eq_nil_of_length_eq_zero he]
        rfl
      · refine LEv.neg (by simpa using he) (LEv.pos (by simp) (LEv.fin ?_))
        rw [if_pos h0, List.length_map, lastT_getD q.1 zeroT he]
    · exact LEv.neg h0 (LEv.fin (if_neg h0).symm)
/-- what is told of a log is fine -/
theorem entS_fine (key log : List Int) (hB : Byt log) (hl : log.length ≤ 1000000) : (∀ e ∈ (entS key log).1, e.f1.length ≤ 1024) ∧ (entS key log).1.length ≤ 1000000 ∧ Byt (entS key log).2.1 ∧ (entS key log).2.1.length ≤ 32 := by
  have hF : ∀ f ∈ (frsOf log).1, FrOk f := frs_ok log hB (by omega) (log.length + 1) 0
  have hlen : 0 + 36 * ((frsOf log).1.length : Int) ≤ (log.length : Int) := frs_len log hB (by omega) (log.length + 1) 0 (by omega) (by omega)
  unfold entS
  split
  · exact ⟨fun e he => absurd he List.not_mem_nil, Nat.zero_le _, Byt.nil, Nat.zero_le _⟩
  · split
    · refine ⟨fun e he => ?_, by simp; omega, lastT_byt _ _ zeroT_byt hF, by rw [lastT_len _ _ zeroT_len hF]; exact Nat.le_refl _⟩
      obtain ⟨f, hf, rfl⟩ := List.mem_map.1 he
      exact (hF f hf).b
    · exact ⟨fun e he => absurd he List.not_mem_nil, Nat.zero_le _, Byt.nil, Nat.zero_le _⟩
theorem esame (e : S35) (h : e.f1.length ≤ 1024) : Ev (fun m => notaryref46_Same.f m e.f0 e.f1 e.f0 e.f1) true :=
  Ev.congr (fun m => notaryref46_Same.f.eq_1 ..) (LEv.pos rfl (LEv.bd _ (LSame.same_self _ (by omega)) (Ev.now _)))
theorem rd_suf (pre : List S35) (e : S35) (L : List S35) : rd_T35 (pre ++ e :: L) (pre.length : Int) = e := by
  unfold rd_T35
  rw [Int.toNat_natCast, List.getD_eq_getElem?_getD, List.getElem?_append_right (Nat.le_refl _)]
  simp
theorem alike_l0 : ∀ (L pre : List S35), (∀ e ∈ L, e.f1.length ≤ 1024) → (pre ++ L).length ≤ 1000000 → Ev (fun m => notaryref46_Alike.l0 m (pre ++ L) (pre ++ L) (pre.length : Int)) true
  | [], pre => fun h hl => Ev.step (fun m => notaryref46_Alike.l0.eq_2 ..) (LEv.neg (by simp) (Ev.now _))
  | e :: L, pre => fun h hl => by
    have e1 := rd_suf pre e L
    have ih := alike_l0 L (pre ++ [e]) (fun x hx => h x (List.mem_cons_of_mem _ hx)) (by simpa using hl)
    rw [show (pre ++ [e]) ++ L = pre ++ e :: L by simp, show (pre ++ [e]).length = pre.length + 1 by simp] at ih
    have hx : ((pre.length : Nat) : Int) < ((pre ++ e :: L).length : Int) := by simp; omega
    rw [List.length_append] at hl
    have hw : wrap64 ((pre.length : Int) + 1) = ((pre.length + 1 : Nat) : Int) := by rw [LEv.w64 _ (by omega) (by omega)]; omega
    refine Ev.step (fun m => notaryref46_Alike.l0.eq_2 ..) (LEv.pos hx (LEv.pos (by omega) (LEv.pos hx ?_)))
    rw [e1, hw]
    exact LEv.bd _ (esame e (h e List.mem_cons_self)) (LEv.pos rfl ih)
theorem alike_self (L : List S35) (h : ∀ e ∈ L, e.f1.length ≤ 1024) (hl : L.length ≤ 1000000) : Ev (fun m => notaryref46_Alike.f m L L) true :=
  Ev.congr (fun m => notaryref46_Alike.f.eq_1 ..) (LEv.pos rfl (alike_l0 L [] h hl))
end Go.Proofs.Ytogjnipojakfjaa.LChain
