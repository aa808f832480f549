/- Logs, plainly: where two part. -/
import Derived.Test.YtnkkgeglnmggpaaLChain3
import Derived.Laws.BytesArg
import Derived.Laws.Strings
import Derived.Test.YtnkkgeglnmggpaaPCpx5
namespace Go.Proofs.Ytnkkgeglnmggpaa.LChain
open Go.RowKit Go.Proofs.Ytnkkgeglnmggpaa.PCp Go.Proofs.YtnkkgeglnmggpaaW.PrintWords Go.Proofs.YtnkkgeglnmggpaaW.PrintLast Go.Proofs.YtnkkgeglnmggpaaW.PrintMore
open LSame (Byt)
set_option linter.unusedVariables false
set_option linter.unusedSimpArgs false
abbrev Ent := S42
/-- the messages of frames, from a tag and a number on -/
def msgs : List Int → Int → List Fr → List (List Int)
  | _, _, [] => []
  | a, n, f :: F => (msgS a n f.1.f0 f.1.f1).1 :: msgs f.2 (n + 1) F
theorem msgs_len : ∀ (F : List Fr) (a : List Int) (n : Int), (msgs a n F).length = F.length
  | [], _, _ => rfl
  | f :: F, a, n => by simp [msgs, msgs_len F]
/-- a frame with its message, as the program keeps it -/
def full (a : List Int) (n : Int) : List Fr → List S49
  | [] => []
  | f :: F => ⟨f.1, (msgS a n f.1.f0 f.1.f1).1, f.2⟩ :: full f.2 (n + 1) F
theorem full_len : ∀ (F : List Fr) (a : List Int) (n : Int), (full a n F).length = F.length
  | [], _, _ => rfl
  | f :: F, a, n => by simp [full, full_len F]
theorem full_at : ∀ (F : List Fr) (a : List Int) (n : Int) (i : Nat), ((full a n F).getD i chain_Clash.z).f1 = (msgs a n F).getD i [] ∧ ((full a n F).getD i chain_Clash.z).f2 = (F.map (·.2)).getD i []
  | [], a, n, i => by simp [full, msgs, chain_Clash.z]
  | f :: F, a, n, 0 => by simp [full, msgs]
  | f :: F, a, n, i + 1 => by
    have := full_at F f.2 (n + 1) i
    simpa [full, msgs] using this
/-- along a log: its frames, whatever their tags are -/
theorem walk_ev (log : List Int) (hB : Byt log) (hl : log.length ≤ 1000000) :
    ∀ (N : Nat) (a : Int) (ahead : List Int) (n : Int) (out : List S49), (log.length : Int) - a < N → 0 ≤ a → a ≤ (log.length : Int) → ahead.length = 32 → Byt ahead → 0 ≤ n → n ≤ 1000000 + a → out.length ≤ a →
    Ev (fun m => chain_along.l chain_Clash.see m log out ahead a n) (out ++ full ahead n (frs log N a).1, (frs log N a).2)
  | 0, a, ahead, n, out => fun h h0 h1 _ _ _ _ _ => by omega
  | N + 1, a, ahead, n, out => fun hN h0 h1 hal hab hn0 hn1 ho => by
    by_cases h2 : a < (log.length : Int)
    · obtain ⟨R, hR, _, _⟩ := LEnt.read_both log hB (by omega) a
      have hq : frs log (N + 1) a = if R.2.2.2.2 = 0 then ((⟨R.1, R.2.1⟩, R.2.2.1) :: (frs log N R.2.2.2.1).1, (frs log N R.2.2.2.1).2) else ([], R.2.2.2.2) := by rw [frs, hR, if_pos h2]
      by_cases h3 : R.2.2.2.2 = 0
      · obtain ⟨hf, _, g1, g2⟩ := read_fine log hB (by omega) a R hR h3
        rw [if_pos h3] at hq
        obtain ⟨mb, ml, m0⟩ := msgS_byt ahead n _ hf hab hal
        simp only at mb ml m0
        have hm := message_ev ahead n hn0 (by omega) R.1 R.2.1
        have ih := walk_ev log hB hl N R.2.2.2.1 R.2.2.1 (n + 1) (out ++ [⟨⟨R.1, R.2.1⟩, (msgS ahead n R.1 R.2.1).1, R.2.2.1⟩]) (by omega) (by omega) g2 hf.t hf.tb (by omega) (by omega) (by simp; omega)
        refine Ev.step (fun m => chain_along.l.eq_2 ..) (LEv.pos h2 (LEv.eqb hR (LEv.pos h3 (LEv.bd _ hm (LEv.pos m0 (LEv.bd (out ++ [⟨⟨R.1, R.2.1⟩, (msgS ahead n R.1 R.2.1).1, R.2.2.1⟩], 0) ?_ (LEv.pos rfl ?_)))))))
        · exact Ev.congr (fun m => chain_Clash.see.eq_1 ..) (LEv.pos (by omega) (Ev.now _))
        · rw [u64mod (n + 1) (by omega) (by omega)]
          refine LEv.val ?_ ih
          rw [hq]
          simp [full]
      · rw [if_neg h3] at hq
        refine Ev.step (fun m => chain_along.l.eq_2 ..) (LEv.pos h2 (LEv.eqb hR (LEv.neg h3 (LEv.fin ?_))))
        rw [hq]
        simp [full]
    · have hq : frs log (N + 1) a = ([], 0) := by rw [frs, if_neg h2]
      refine Ev.step (fun m => chain_along.l.eq_2 ..) (LEv.neg h2 (LEv.fin ?_))
      rw [hq]
      simp [full]
theorem strOf_inj (x y : List Int) (hx : Byt x) (hy : Byt y) (h : (strOfNums x).toList = (strOfNums y).toList) : x = y := by
  rw [ByteArray.toList_eq, ByteArray.toList_eq, strOfNums_data, strOfNums_data] at h
  have hl : x.length = y.length := by have := congrArg List.length h; simpa using this
  refine List.ext_getElem hl fun i h1 h2 => ?_
  have he : (x.map fun n => UInt8.ofNat n.toNat)[i]? = (y.map fun n => UInt8.ofNat n.toNat)[i]? := by rw [h]
  rw [List.getElem?_map, List.getElem?_map, List.getElem?_eq_getElem h1, List.getElem?_eq_getElem h2] at he
  have hq := congrArg UInt8.toNat (Option.some.inj he)
  have a1 := hx x[i] (List.getElem_mem h1)
  have a2 := hy y[i] (List.getElem_mem h2)
  rw [UInt8.toNat_ofNat', UInt8.toNat_ofNat'] at hq
  omega
theorem equal_ok (x y : List Int) (hx : Byt x) (hy : Byt y) : bytes_Equal.f x y = some (decide (x = y)) := by
  unfold bytes_Equal.f
  congr 1
  by_cases h : x = y
  · rw [h, decide_eq_true rfl]
    simp
  · rw [decide_eq_false h]
    exact beq_eq_false_iff_ne.mpr (fun e => h (strOf_inj x y hx hy e))
/-- from a number of frames down: where two logs part -/
def clS (T T' M M' : List (List Int)) : Nat → List Int × List Int × Bool
  | 0 => ([], [], false)
  | i + 1 => if T.getD i [] = T'.getD i [] then (if M.getD i [] = M'.getD i [] then clS T T' M M' i else (M.getD i [], M'.getD i [], true)) else ([], [], false)
def AllB (T : List (List Int)) : Prop := ∀ x ∈ T, Byt x ∧ x.length ≤ 2000
theorem AllB.at {T : List (List Int)} (h : AllB T) (i : Nat) : Byt (T.getD i []) ∧ (T.getD i []).length ≤ 2000 := by
  rw [List.getD_eq_getElem?_getD]
  by_cases hi : i < T.length
  · rw [List.getElem?_eq_getElem hi]
    exact h _ (List.getElem_mem hi)
  · rw [List.getElem?_eq_none (by omega)]
    exact ⟨Byt.nil, Nat.zero_le _⟩
theorem clash_l (T T' M M' : List (List Int)) (x y : List S49) (h1 : ∀ i, (x.getD i chain_Clash.z).f1 = M.getD i [] ∧ (x.getD i chain_Clash.z).f2 = T.getD i []) (h2 : ∀ i, (y.getD i chain_Clash.z).f1 = M'.getD i [] ∧ (y.getD i chain_Clash.z).f2 = T'.getD i [])
    (hT : AllB T) (hT' : AllB T') (hM : AllB M) (hM' : AllB M') : ∀ i : Nat, Ev (fun m => chain_Clash.l m x y ((i : Int) - 1)) (clS T T' M M' i)
  | 0 => Ev.step (fun m => chain_Clash.l.eq_2 ..) (LEv.neg (by omega) (Ev.now _))
  | i + 1 => by
    have e : ((i + 1 : Nat) : Int) - 1 = (i : Int) := by omega
    rw [e]
    have q1 := equal_ok _ _ (hT.at i).1 (hT'.at i).1
    have q2 := equal_ok _ _ (hM.at i).1 (hM'.at i).1
    refine Ev.step (fun m => chain_Clash.l.eq_2 ..) (LEv.pos (by omega) ?_)
    rw [Int.toNat_natCast, (h1 i).1, (h1 i).2, (h2 i).1, (h2 i).2]
    refine LEv.eqb q1 ?_
    rw [clS]
    by_cases c1 : T.getD i [] = T'.getD i []
    · rw [decide_eq_true c1, if_pos c1]
      refine LEv.pos rfl (LEv.eqb q2 ?_)
      by_cases c2 : M.getD i [] = M'.getD i []
      · rw [decide_eq_true c2, if_pos c2]
        exact LEv.pos rfl (clash_l T T' M M' x y h1 h2 hT hT' hM hM' i)
      · rw [decide_eq_false c2, if_neg c2]
        exact LEv.neg (by decide) (Ev.now _)
    · rw [decide_eq_false c1, if_neg c1]
      exact LEv.neg (by decide) (Ev.now _)
theorem msgs_getD : ∀ (F : List Fr) (a : List Int) (n : Int) (i : Nat), i < F.length → (msgs a n F).getD i [] = (msgS (if i = 0 then a else (F.map (·.2)).getD (i - 1) []) (n + i) ((F.map (·.1)).getD i z42).f0 ((F.map (·.1)).getD i z42).f1).1
  | [], a, n, i => fun h => by simp at h
  | f :: F, a, n, 0 => fun h => by simp [msgs]
  | f :: F, a, n, i + 1 => fun h => by
    have := msgs_getD F f.2 (n + 1) i (by simpa using h)
    simp only [msgs, List.getD_cons_succ, List.map_cons]
    rw [this]
    cases i with
    | zero => simp
    | succ i =>
      rw [if_neg (by omega), if_neg (by omega)]
      simp only [Nat.add_sub_cancel, List.getD_cons_succ]
      rw [show n + 1 + ((i + 1 : Nat) : Int) = n + ((i + 1 + 1 : Nat) : Int) by omega]
theorem tagAt_len (F : List Fr) (hF : ∀ f ∈ F, FrOk f) (i : Nat) (h : i < F.length) : ((F.map (·.2)).getD i []).length = 32 ∧ Byt ((F.map (·.2)).getD i []) := by
  rw [List.getD_eq_getElem?_getD, List.getElem?_map, List.getElem?_eq_getElem h]
  have := hF F[i] (List.getElem_mem h)
  exact ⟨this.t, this.tb⟩
theorem msgs_all : ∀ (F : List Fr) (a : List Int) (n : Int), (∀ f ∈ F, FrOk f) → Byt a → a.length = 32 → AllB (msgs a n F)
  | [], _, _ => fun _ _ _ x hx => by simp [msgs] at hx
  | f :: F, a, n => fun h ha hal x hx => by
    have hf := h f List.mem_cons_self
    rcases List.mem_cons.1 (by simpa [msgs] using hx) with rfl | hx
    · obtain ⟨b1, b2, _⟩ := msgS_byt a n f hf ha hal
      exact ⟨b1, b2⟩
    · exact msgs_all F f.2 (n + 1) (fun g hg => h g (List.mem_cons_of_mem _ hg)) hf.tb hf.t x hx
theorem tags_all (F : List Fr) (h : ∀ f ∈ F, FrOk f) : AllB (F.map (·.2)) := fun x hx => by
  obtain ⟨f, hf, rfl⟩ := List.mem_map.1 hx
  exact ⟨(h f hf).tb, by have := (h f hf).t; omega⟩
/-- where two logs part -/
def clash (a b : List Int) : List Int × List Int × Bool :=
  if (frsOf a).2 = 0 ∧ (frsOf b).2 = 0 ∧ (frsOf a).1.length = (frsOf b).1.length then clS ((frsOf a).1.map (·.2)) ((frsOf b).1.map (·.2)) (msgs zeroT 1 (frsOf a).1) (msgs zeroT 1 (frsOf b).1) (frsOf a).1.length else ([], [], false)
theorem clash_ev (a b : List Int) (hA : Byt a) (hB : Byt b) (hal : a.length ≤ 1000000) (hbl : b.length ≤ 1000000) : Ev (fun m => chain_Clash.f m a b) (clash a b) ∧ True := by
  have hF : ∀ f ∈ (frsOf a).1, FrOk f := frs_ok a hA (by omega) (a.length + 1) 0
  have hG : ∀ f ∈ (frsOf b).1, FrOk f := frs_ok b hB (by omega) (b.length + 1) 0
  have hFl : 0 + 36 * ((frsOf a).1.length : Int) ≤ (a.length : Int) := frs_len a hA (by omega) (a.length + 1) 0 (by omega) (by omega)
  have w1 := walk_ev a hA hal (a.length + 1) 0 zeroT 1 [] (by omega) (by omega) (by omega) zeroT_len zeroT_byt (by omega) (by omega) (by simp)
  have w2 := walk_ev b hB hbl (b.length + 1) 0 zeroT 1 [] (by omega) (by omega) (by omega) zeroT_len zeroT_byt (by omega) (by omega) (by simp)
  rw [List.nil_append] at w1 w2
  unfold clash
  obtain ⟨p, hp⟩ : ∃ p, p = frsOf a := ⟨_, rfl⟩
  obtain ⟨q, hq⟩ : ∃ q, q = frsOf b := ⟨_, rfl⟩
  rw [show frs a (a.length + 1) 0 = frsOf a from rfl] at w1
  rw [show frs b (b.length + 1) 0 = frsOf b from rfl] at w2
  rw [← hp] at w1 hF hFl ⊢
  rw [← hq] at w2 hG ⊢
  have hMa := msgs_all p.1 zeroT 1 hF zeroT_byt zeroT_len
  have hMb := msgs_all q.1 zeroT 1 hG zeroT_byt zeroT_len
  have e1 : Ev (fun m => chain_along.f chain_Clash.see m a []) (full zeroT 1 p.1, p.2) := Ev.congr (fun m => chain_along.f.eq_1 ..) (LEv.eqb first_ok w1)
  have e2 : Ev (fun m => chain_along.f chain_Clash.see m b []) (full zeroT 1 q.1, q.2) := Ev.congr (fun m => chain_along.f.eq_1 ..) (LEv.eqb first_ok w2)
  constructor
  · refine Ev.congr (fun m => chain_Clash.f.eq_1 ..) (LEv.bd _ e1 (LEv.bd _ e2 ?_))
    by_cases c1 : p.2 = 0
    · refine LEv.pos c1 ?_
      by_cases c2 : q.2 = 0
      · refine LEv.pos c2 ?_
        by_cases c3 : p.1.length = q.1.length
        · rw [if_pos ⟨c1, c2, c3⟩]
          refine LEv.pos (by rw [full_len, full_len]; exact c3) ?_
          rw [full_len]
          exact clash_l _ _ _ _ _ _ (full_at p.1 zeroT 1) (full_at q.1 zeroT 1) (tags_all p.1 hF) (tags_all q.1 hG) hMa hMb p.1.length
        · rw [if_neg (fun h => c3 h.2.2)]
          exact LEv.neg (by rw [full_len, full_len]; exact c3) (Ev.now _)
      · rw [if_neg (fun h => c2 h.2.1)]
        exact LEv.neg c2 (Ev.now _)
    · rw [if_neg (fun h => c1 h.1)]
      exact LEv.neg c1 (Ev.now _)
  · trivial
end Go.Proofs.Ytnkkgeglnmggpaa.LChain
