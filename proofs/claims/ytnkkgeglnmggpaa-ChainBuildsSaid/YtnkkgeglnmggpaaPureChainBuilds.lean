/- The law of logs that are built, over numbers and lists alone. -/
import Derived.Test.YtnkkgeglnmggpaaLChain3
import Derived.Test.YtnkkgeglnmggpaaLEnt4
import Derived.Test.YtnkkgeglnmggpaaPCbx6
import Derived.Test.YtnkkgeglnmggpaaPCbx7
import Derived.Test.YtnkkgeglnmggpaaPCbx13
import Derived.Test.YtnkkgeglnmggpaaPCbx14
namespace Go.Proofs.Ytnkkgeglnmggpaa.LChain
open Go.RowKit Go.Proofs.Ytnkkgeglnmggpaa.PCb Go.Proofs.YtnkkgeglnmggpaaW.PrintWords Go.Proofs.YtnkkgeglnmggpaaW.PrintLast Go.Proofs.YtnkkgeglnmggpaaW.PrintMore
open LSame (Byt)
set_option linter.unusedVariables false
set_option linter.unusedSimpArgs false
abbrev Ent := S42
/-- the log of entries from a tag and a number on, its last tag; or what is wrong -/
noncomputable def bldS (key : List Int) : List Int → Int → List Ent → List Int × List Int × Int
  | tag, _, [] => ([], tag, 0)
  | tag, n, e :: L => if (LEnt.payS e.f0 e.f1).2 = 0 then
      (if (bldS key (tagS key (msgS tag n e.f0 e.f1).1) (n + 1) L).2.2 = 0 then ((LEnt.frS e.f0 e.f1 (tagS key (msgS tag n e.f0 e.f1).1)).1 ++ (bldS key (tagS key (msgS tag n e.f0 e.f1).1) (n + 1) L).1, (bldS key (tagS key (msgS tag n e.f0 e.f1).1) (n + 1) L).2.1, 0)
      else ([], [], (bldS key (tagS key (msgS tag n e.f0 e.f1).1) (n + 1) L).2.2))
    else ([], [], (LEnt.payS e.f0 e.f1).2)
theorem payS_inv (k : Int) (b : List Int) (h : (LEnt.payS k b).2 = 0) : 1 ≤ k ∧ k ≤ 3 ∧ b.length ≤ 1024 := by
  unfold LEnt.payS at h
  split at h
  · split at h
    · simp at h
    · rename_i h1 h2
      exact ⟨h1.1, h1.2, by omega⟩
  · simp at h
theorem msgS_pay (tag : List Int) (n : Int) (k : Int) (b : List Int) (ht : tag.length = 32) : (msgS tag n k b).2 = (LEnt.payS k b).2 := by
  unfold msgS
  rw [if_pos ht]
  split
  · rename_i h
    exact h.symm
  · rfl
/-- a whole entry in a build: its tag and its frame -/
theorem step_ok (key tag : List Int) (n : Int) (e : Ent) (hk : Byt key) (hkl : key.length ≤ 1000) (hb : Byt e.f1) (ht : tag.length = 32) (htb : Byt tag) (hp : (LEnt.payS e.f0 e.f1).2 = 0) :
    FrOk (e, tagS key (msgS tag n e.f0 e.f1).1) ∧ (msgS tag n e.f0 e.f1).2 = 0 ∧ Byt (msgS tag n e.f0 e.f1).1 ∧ (msgS tag n e.f0 e.f1).1.length ≤ 2000 ∧ LEnt.frS e.f0 e.f1 (tagS key (msgS tag n e.f0 e.f1).1) = (entry_length.bytes ((e.f1.length + 1 : Nat) : Int) ++ (e.f0 :: e.f1) ++ tagS key (msgS tag n e.f0 e.f1).1, 0) := by
  obtain ⟨h1, h2, h3⟩ := payS_inv _ _ hp
  have hf0 : FrOk ((e, List.replicate 32 0) : Fr) := ⟨h1, h2, h3, hb, List.length_replicate .., Byt.zeros _⟩
  obtain ⟨mb, ml, m0⟩ := msgS_byt tag n _ hf0 htb ht
  obtain ⟨tl, tb, _, _⟩ := tagS_spec key _ hk hkl mb (by simp only at ml ⊢; omega)
  exact ⟨⟨h1, h2, h3, hb, tl, tb⟩, m0, mb, ml, LEnt.frS_mk _ _ _ h1 h2 h3 tl⟩
theorem build_l0 (key : List Int) (hk : Byt key) (hkl : key.length ≤ 1000) : ∀ (L pre : List Ent) (out tag : List Int), (∀ e ∈ L, Byt e.f1) → (pre ++ L).length ≤ 20 → out.length ≤ 2000 * pre.length → tag.length = 32 → Byt tag →
    Ev (fun m => chain_Build.l0 m key out tag (pre ++ L) ((pre ++ L).length : Int) (pre.length : Int)) (if (bldS key tag ((pre.length + 1 : Nat) : Int) L).2.2 = 0 then (out ++ (bldS key tag ((pre.length + 1 : Nat) : Int) L).1, (bldS key tag ((pre.length + 1 : Nat) : Int) L).2.1, 0) else ([], [], (bldS key tag ((pre.length + 1 : Nat) : Int) L).2.2))
  | [], pre, out, tag => fun hB hl ho ht htb => Ev.step (fun m => chain_Build.l0.eq_2 ..) (LEv.neg (by simp) (LEv.fin (by simp [bldS])))
  | e :: L, pre, out, tag => fun hB hl ho ht htb => by
    have hbe := hB e List.mem_cons_self
    have e1 := rd_suf pre e L
    have hlt : ((pre.length : Nat) : Int) < ((pre ++ e :: L).length : Int) := by simp; omega
    rw [List.length_append, List.length_cons] at hl
    have hu : IntKind.u64.wrap (IntKind.u64.wrap (pre.length : Int) + 1) = ((pre.length + 1 : Nat) : Int) := by rw [LSame.u64w, LSame.u64w]; omega
    have hw : wrap64 ((pre.length : Int) + 1) = ((pre.length + 1 : Nat) : Int) := by rw [LEv.w64 _ (by omega) (by omega)]; omega
    have hm := message_ev tag ((pre.length + 1 : Nat) : Int) (by omega) (by omega) e.f0 e.f1
    have hmp := msgS_pay tag ((pre.length + 1 : Nat) : Int) e.f0 e.f1 ht
    by_cases hp : (LEnt.payS e.f0 e.f1).2 = 0
    · obtain ⟨hf, m0, mb, ml, hfr⟩ := step_ok key tag ((pre.length + 1 : Nat) : Int) e hk hkl hbe ht htb hp
      obtain ⟨_, _, te, _⟩ := tagS_spec key _ hk hkl mb (by omega)
      have hfl : (LEnt.frS e.f0 e.f1 (tagS key (msgS tag ((pre.length + 1 : Nat) : Int) e.f0 e.f1).1)).1.length ≤ 2000 := by
        rw [hfr]
        have h3 := hf.b
        have h4 := hf.t
        simp only at h3 h4
        have h5 : (entry_length.bytes ((e.f1.length + 1 : Nat) : Int)).length = 4 := rfl
        simp only [List.length_append, List.length_cons, h4, h5]
        omega
      have hf0 : (LEnt.frS e.f0 e.f1 (tagS key (msgS tag ((pre.length + 1 : Nat) : Int) e.f0 e.f1).1)).2 = 0 := by rw [hfr]
      have ih := build_l0 key hk hkl L (pre ++ [e]) (out ++ (LEnt.frS e.f0 e.f1 (tagS key (msgS tag ((pre.length + 1 : Nat) : Int) e.f0 e.f1).1)).1) (tagS key (msgS tag ((pre.length + 1 : Nat) : Int) e.f0 e.f1).1) (fun x hx => hB x (List.mem_cons_of_mem _ hx)) (by simp; omega) (by simp only [List.length_append, List.length_cons, List.length_nil]; omega) hf.t hf.tb
      rw [show (pre ++ [e]) ++ L = pre ++ e :: L by simp, show (pre ++ [e]).length = pre.length + 1 by simp] at ih
      refine Ev.step (fun m => chain_Build.l0.eq_2 ..) (LEv.pos hlt (LEv.pos (by omega) (LEv.pos hlt ?_)))
      rw [hu, hw, e1]
      refine LEv.bd _ hm (LEv.pos m0 (LEv.bd _ te (LEv.eqb (LEnt.frame_ok ..) (LEv.pos hf0 (LEv.pos (by omega) (LEv.val ?_ ih))))))
      rw [bldS, if_pos hp]
      have hn : ((pre.length + 1 : Nat) : Int) + 1 = ((pre.length + 1 + 1 : Nat) : Int) := by omega
      rw [hn]
      split
      · simp only [if_true, List.append_assoc]
      · rename_i hx
        simp only
    · refine Ev.step (fun m => chain_Build.l0.eq_2 ..) (LEv.pos hlt (LEv.pos (by omega) (LEv.pos hlt ?_)))
      rw [hu, e1]
      refine LEv.bd _ hm (LEv.neg (by rw [hmp]; exact hp) (LEv.fin ?_))
      rw [bldS, if_neg hp, hmp]
      simp only
      rw [if_neg hp]
theorem rbuild_l0 (key : List Int) (hk : Byt key) (hkl : key.length ≤ 1000) : ∀ (L pre : List Ent) (out tag : List Int), (∀ e ∈ L, Byt e.f1) → (pre ++ L).length ≤ 20 → out.length ≤ 2000 * pre.length → tag.length = 32 → Byt tag →
    Ev (fun m => notaryref47_Build.l0 m key (pre ++ L) out tag (pre.length : Int)) (if (bldS key tag ((pre.length + 1 : Nat) : Int) L).2.2 = 0 then (out ++ (bldS key tag ((pre.length + 1 : Nat) : Int) L).1, (bldS key tag ((pre.length + 1 : Nat) : Int) L).2.1, 0) else ([], [], (bldS key tag ((pre.length + 1 : Nat) : Int) L).2.2))
  | [], pre, out, tag => fun hB hl ho ht htb => Ev.step (fun m => notaryref47_Build.l0.eq_2 ..) (LEv.neg (by simp) (LEv.fin (by simp [bldS])))
  | e :: L, pre, out, tag => fun hB hl ho ht htb => by
    have hbe := hB e List.mem_cons_self
    have e1 := rd_suf pre e L
    have hlt : ((pre.length : Nat) : Int) < ((pre ++ e :: L).length : Int) := by simp; omega
    rw [List.length_append, List.length_cons] at hl
    have hw : wrap64 ((pre.length : Int) + 1) = ((pre.length + 1 : Nat) : Int) := by rw [LEv.w64 _ (by omega) (by omega)]; omega
    by_cases hp : (LEnt.payS e.f0 e.f1).2 = 0
    · obtain ⟨hf, m0, mb, ml, hfr⟩ := step_ok key tag ((pre.length + 1 : Nat) : Int) e hk hkl hbe ht htb hp
      have hn2 := next_ev key tag ((pre.length + 1 : Nat) : Int) (e, tagS key (msgS tag ((pre.length + 1 : Nat) : Int) e.f0 e.f1).1) hf hk hkl htb ht (by omega) (by omega)
      have hfl : (LEnt.frS e.f0 e.f1 (tagS key (msgS tag ((pre.length + 1 : Nat) : Int) e.f0 e.f1).1)).1.length ≤ 2000 := by
        rw [hfr]
        have h3 := hf.b
        have h4 := hf.t
        simp only at h3 h4
        have h5 : (entry_length.bytes ((e.f1.length + 1 : Nat) : Int)).length = 4 := rfl
        simp only [List.length_append, List.length_cons, h4, h5]
        omega
      have ih := rbuild_l0 key hk hkl L (pre ++ [e]) (out ++ (LEnt.frS e.f0 e.f1 (tagS key (msgS tag ((pre.length + 1 : Nat) : Int) e.f0 e.f1).1)).1) (tagS key (msgS tag ((pre.length + 1 : Nat) : Int) e.f0 e.f1).1) (fun x hx => hB x (List.mem_cons_of_mem _ hx)) (by simp; omega) (by simp only [List.length_append, List.length_cons, List.length_nil]; omega) hf.t hf.tb
      rw [show (pre ++ [e]) ++ L = pre ++ e :: L by simp, show (pre ++ [e]).length = pre.length + 1 by simp] at ih
      refine Ev.step (fun m => notaryref47_Build.l0.eq_2 ..) (LEv.pos hlt (LEv.pos (by omega) ?_))
      rw [hw, e1]
      refine LEv.bd _ (LEnt.rpayload_ev e.f0 e.f1) (LEv.pos hp (LEv.bd _ hn2 (LEv.bd _ (LEnt.rframe_ev ..) (LEv.pos (by simp only; omega) (LEv.val ?_ ih)))))
      rw [bldS, if_pos hp]
      have hn : ((pre.length + 1 : Nat) : Int) + 1 = ((pre.length + 1 + 1 : Nat) : Int) := by omega
      rw [hn]
      split
      · simp only [if_true, List.append_assoc]
      · rename_i hx
        simp only
    · refine Ev.step (fun m => notaryref47_Build.l0.eq_2 ..) (LEv.pos hlt (LEv.pos (by omega) ?_))
      rw [e1]
      refine LEv.bd _ (LEnt.rpayload_ev e.f0 e.f1) (LEv.neg hp (LEv.fin ?_))
      rw [bldS, if_neg hp]
      simp only
      rw [if_neg hp]
/-- a built log's frames -/
theorem frs_bld (key : List Int) (hk : Byt key) (hkl : key.length ≤ 1000) : ∀ (L : List Ent) (pre tag : List Int) (n : Int) (N : Nat), (∀ e ∈ L, Byt e.f1) → L.length ≤ 20 → pre.length ≤ 2000 * (20 - L.length) → tag.length = 32 → Byt tag → (bldS key tag n L).2.2 = 0 → L.length < N →
    (frs (pre ++ (bldS key tag n L).1) N (pre.length : Int)).1.map (·.1) = L ∧ (frs (pre ++ (bldS key tag n L).1) N (pre.length : Int)).2 = 0 ∧ goodS key tag n (frs (pre ++ (bldS key tag n L).1) N (pre.length : Int)).1 = L.length ∧ lastT tag (frs (pre ++ (bldS key tag n L).1) N (pre.length : Int)).1 = (bldS key tag n L).2.1 ∧ Byt (bldS key tag n L).1 ∧ (bldS key tag n L).1.length ≤ 2000 * L.length
  | [], pre, tag, n, N => fun hB hl hp ht htb h0 hN => by
    obtain ⟨M, rfl⟩ : ∃ M, N = M + 1 := ⟨N - 1, by simp at hN; omega⟩
    rw [frs]
    simp [bldS, goodS, lastT, Byt.nil]
  | e :: L, pre, tag, n, N => fun hB hl hpl ht htb h0 hN => by
    obtain ⟨M, rfl⟩ : ∃ M, N = M + 1 := ⟨N - 1, by omega⟩
    have hbe := hB e List.mem_cons_self
    rw [List.length_cons] at hl hpl hN
    by_cases hp : (LEnt.payS e.f0 e.f1).2 = 0
    · obtain ⟨hf, m0, mb, ml, hfr⟩ := step_ok key tag n e hk hkl hbe ht htb hp
      rw [bldS, if_pos hp] at h0 ⊢
      by_cases hx : (bldS key (tagS key (msgS tag n e.f0 e.f1).1) (n + 1) L).2.2 = 0
      · rw [if_pos hx]
        simp only
        have h5 : (entry_length.bytes ((e.f1.length + 1 : Nat) : Int)).length = 4 := rfl
        have hfl : (LEnt.frS e.f0 e.f1 (tagS key (msgS tag n e.f0 e.f1).1)).1.length ≤ 2000 := by
          rw [hfr]
          have h3 := hf.b
          have h4 := hf.t
          simp only at h3 h4
          simp only [List.length_append, List.length_cons, h4, h5]
          omega
        have hfb : Byt (LEnt.frS e.f0 e.f1 (tagS key (msgS tag n e.f0 e.f1).1)).1 := by
          rw [hfr]
          have h1 := hf.k1
          have h2 := hf.k2
          simp only at h1 h2
          have h3 := hf.b
          simp only at h3
          refine (Byt.append ?_ (Byt.cons (by omega) (by omega) hf.bb)).append hf.tb
          unfold entry_length.bytes
          exact Byt.cons (by omega) (by omega) (Byt.cons (by omega) (by omega) (Byt.cons (by omega) (by omega) (Byt.cons (by omega) (by omega) Byt.nil)))
        obtain ⟨i1, i2, i3, i4, i5, i6⟩ := frs_bld key hk hkl L (pre ++ (LEnt.frS e.f0 e.f1 (tagS key (msgS tag n e.f0 e.f1).1)).1) (tagS key (msgS tag n e.f0 e.f1).1) (n + 1) M (fun x hx => hB x (List.mem_cons_of_mem _ hx)) (by omega) (by rw [List.length_append]; omega) hf.t hf.tb hx (by omega)
        have hR := LEnt.read_frame pre (bldS key (tagS key (msgS tag n e.f0 e.f1).1) (n + 1) L).1 e.f0 e.f1 (tagS key (msgS tag n e.f0 e.f1).1) hf.k1 hf.k2 hf.b hf.t (by omega)
        have hfr1 : entry_length.bytes ((e.f1.length + 1 : Nat) : Int) ++ (e.f0 :: e.f1) ++ tagS key (msgS tag n e.f0 e.f1).1 = (LEnt.frS e.f0 e.f1 (tagS key (msgS tag n e.f0 e.f1).1)).1 := by rw [hfr]
        rw [hfr1] at hR
        have hpos : 0 < (LEnt.frS e.f0 e.f1 (tagS key (msgS tag n e.f0 e.f1).1)).1.length := by rw [hfr]; simp [entry_length.bytes]
        rw [← List.append_assoc]
        rw [List.length_append] at i1 i2 i3 i4
        have hq : frs (pre ++ (LEnt.frS e.f0 e.f1 (tagS key (msgS tag n e.f0 e.f1).1)).1 ++ (bldS key (tagS key (msgS tag n e.f0 e.f1).1) (n + 1) L).1) (M + 1) (pre.length : Int) = ((e, tagS key (msgS tag n e.f0 e.f1).1) :: (frs (pre ++ (LEnt.frS e.f0 e.f1 (tagS key (msgS tag n e.f0 e.f1).1)).1 ++ (bldS key (tagS key (msgS tag n e.f0 e.f1).1) (n + 1) L).1) M ((pre.length + (LEnt.frS e.f0 e.f1 (tagS key (msgS tag n e.f0 e.f1).1)).1.length : Nat) : Int)).1, (frs (pre ++ (LEnt.frS e.f0 e.f1 (tagS key (msgS tag n e.f0 e.f1).1)).1 ++ (bldS key (tagS key (msgS tag n e.f0 e.f1).1) (n + 1) L).1) M ((pre.length + (LEnt.frS e.f0 e.f1 (tagS key (msgS tag n e.f0 e.f1).1)).1.length : Nat) : Int)).2) := by
          rw [frs, hR, if_pos (by simp only [List.length_append]; omega)]
          simp only [if_true]
        rw [hq]
        refine ⟨?_, i2, ?_, ?_, hfb.append i5, ?_⟩
        · simp only [List.map_cons]
          rw [i1]
        · rw [goodS]
          simp only [if_true, List.length_cons]
          rw [i3]
        · rw [lastT]
          exact i4
        · rw [List.length_append, List.length_cons]
          omega
      · rw [if_neg hx] at h0
        exact absurd h0 hx
    · rw [bldS, if_neg hp] at h0
      exact absurd h0 hp
theorem bld_len (key : List Int) (hk : Byt key) (hkl : key.length ≤ 1000) : ∀ (L : List Ent) (tag : List Int) (n : Int), (∀ e ∈ L, Byt e.f1) → tag.length = 32 → Byt tag → (bldS key tag n L).2.2 = 0 → L.length ≤ (bldS key tag n L).1.length
  | [], tag, n => fun _ _ _ _ => Nat.zero_le _
  | e :: L, tag, n => fun hB ht htb h0 => by
    by_cases hp : (LEnt.payS e.f0 e.f1).2 = 0
    · obtain ⟨hf, m0, mb, ml, hfr⟩ := step_ok key tag n e hk hkl (hB e List.mem_cons_self) ht htb hp
      rw [bldS, if_pos hp] at h0 ⊢
      by_cases hx : (bldS key (tagS key (msgS tag n e.f0 e.f1).1) (n + 1) L).2.2 = 0
      · have := bld_len key hk hkl L (tagS key (msgS tag n e.f0 e.f1).1) (n + 1) (fun x hx => hB x (List.mem_cons_of_mem _ hx)) hf.t hf.tb hx
        rw [if_pos hx]
        have hpos : 0 < (LEnt.frS e.f0 e.f1 (tagS key (msgS tag n e.f0 e.f1).1)).1.length := by rw [hfr]; simp [entry_length.bytes]
        simp only [List.length_append, List.length_cons]
        omega
      · rw [if_neg hx] at h0
        exact absurd h0 hx
    · rw [bldS, if_neg hp] at h0
      exact absurd h0 hp
theorem large_l0 (L : List Ent) : ∀ (d i : Nat), d + i = min L.length 20 → ∃ r, Ev (fun m => notaryref47_Large.l0 m L (i : Int)) r ∧ (r = false → L.length ≤ 20)
  | 0, i => fun h => by
    refine ⟨decide ((L.length : Int) > 20), ?_, fun h => by have := of_decide_eq_false h; omega⟩
    have hj : Ev (fun m => notaryref47_Large.j1 m L (i : Int) false) (decide ((L.length : Int) > 20)) := Ev.step (fun m => notaryref47_Large.j1.eq_2 ..) (LEv.neg (by decide) (Ev.now _))
    refine Ev.step (fun m => notaryref47_Large.l0.eq_2 ..) ?_
    by_cases hl : (i : Int) < (L.length : Int)
    · refine LEv.pos hl ?_
      rw [decide_eq_false (by omega)]
      exact hj
    · exact LEv.neg hl hj
  | d + 1, i => fun h => by
    have hl : (i : Int) < (L.length : Int) := by omega
    have hw : wrap64 ((i : Int) + 1) = ((i + 1 : Nat) : Int) := by rw [LEv.w64 _ (by omega) (by omega)]; omega
    obtain ⟨r, hr, hh⟩ := large_l0 L d (i + 1) (by omega)
    have go : ∀ r, Ev (fun m => notaryref47_Large.j1 m L (i : Int) true) r → Ev (fun m => notaryref47_Large.l0 m L (i : Int)) r := fun r k => by
      refine Ev.step (fun m => notaryref47_Large.l0.eq_2 ..) (LEv.pos hl ?_)
      rw [decide_eq_true (by omega)]
      exact k
    by_cases hb : (((rd_T42 L (i : Int)).f1).length : Int) > 2000
    · exact ⟨true, go _ (Ev.step (fun m => notaryref47_Large.j1.eq_2 ..) (LEv.pos rfl (LEv.pos (by omega) (LEv.pos hl (LEv.pos hb (Ev.now _)))))), fun h => by simp at h⟩
    · refine ⟨r, go _ (Ev.step (fun m => notaryref47_Large.j1.eq_2 ..) (LEv.pos rfl (LEv.pos (by omega) (LEv.pos hl (LEv.neg hb ?_))))), hh⟩
      rw [hw]
      exact hr
theorem large_ev (L : List Ent) : ∃ r, Ev (fun m => notaryref47_Large.f m L) r ∧ (r = false → L.length ≤ 20) := by
  obtain ⟨r, h1, h2⟩ := large_l0 L (min L.length 20) 0 (by omega)
  exact ⟨r, Ev.congr (fun m => notaryref47_Large.f.eq_1 ..) h1, h2⟩
theorem ChainBuilds (key : List Int) (L : List Ent) (n : Int) (hk : Byt key) (hB : ∀ e ∈ L, Byt e.f1) (hn0 : 0 ≤ n) (hn1 : n < 18446744073709551616) : Ev (fun m => notarylaw47_ChainBuilds.f m key L n) true := by
  have big : Ev (fun m => notarylaw47_ChainBuilds.j0 m key L n true) true := Ev.step (fun m => notarylaw47_ChainBuilds.j0.eq_2 ..) (LEv.pos rfl awake_bind)
  obtain ⟨r, hr, hl⟩ := large_ev L
  refine Ev.congr (fun m => notarylaw47_ChainBuilds.f.eq_1 ..) (LEv.bd r hr ?_)
  cases r with
  | true => exact LEv.pos rfl big
  | false =>
  refine LEv.neg (by decide) ?_
  have hlen := hl rfl
  by_cases h2 : (key.length : Int) > 200
  · rw [decide_eq_true h2]
    exact big
  rw [decide_eq_false h2]
  have hb1 := build_l0 key hk (by omega) L [] [] zeroT hB hlen (by simp) zeroT_len zeroT_byt
  have hb2 := rbuild_l0 key hk (by omega) L [] [] zeroT hB hlen (by simp) zeroT_len zeroT_byt
  simp only [List.nil_append, List.length_nil, Nat.zero_add] at hb1 hb2
  have hb1' : Ev (fun m => chain_Build.f m key L) _ := Ev.congr (fun m => chain_Build.f.eq_1 ..) (LEv.eqb first_ok hb1)
  have hb2' : Ev (fun m => notaryref47_Build.f m key L) _ := Ev.congr (fun m => notaryref47_Build.f.eq_1 ..) (LEv.eqb rfirst_ok hb2)
  obtain ⟨Q, hQ⟩ : ∃ Q : List Int × List Int × Int, Q = (if (bldS key zeroT ((1 : Nat) : Int) L).2.2 = 0 then ((bldS key zeroT ((1 : Nat) : Int) L).1, (bldS key zeroT ((1 : Nat) : Int) L).2.1, 0) else ([], [], (bldS key zeroT ((1 : Nat) : Int) L).2.2)) := ⟨_, rfl⟩
  rw [← hQ] at hb1' hb2'
  have facts : Q.1.length ≤ 100000 ∧ Q.2.1.length ≤ 32 ∧ (Q.2.2 = 0 → Byt Q.1 ∧ Q.2.1.length = 32 ∧ Byt Q.2.1 ∧ entS key Q.1 = (L, Q.2.1, 0)) := by
    by_cases h0 : (bldS key zeroT ((1 : Nat) : Int) L).2.2 = 0
    · have hll := bld_len key hk (by omega) L zeroT ((1 : Nat) : Int) hB zeroT_len zeroT_byt h0
      obtain ⟨i1, i2, i3, i4, i5, i6⟩ := frs_bld key hk (by omega) L [] zeroT ((1 : Nat) : Int) ((bldS key zeroT ((1 : Nat) : Int) L).1.length + 1) hB hlen (by simp) zeroT_len zeroT_byt h0 (by omega)
      have hok := frs_ok (bldS key zeroT ((1 : Nat) : Int) L).1 i5 (by omega) ((bldS key zeroT ((1 : Nat) : Int) L).1.length + 1) 0
      rw [hQ, if_pos h0]
      obtain ⟨W, hW⟩ : ∃ W, W = bldS key zeroT ((1 : Nat) : Int) L := ⟨_, rfl⟩
      rw [← hW] at i1 i2 i3 i4 i5 i6 hok hll ⊢
      simp only [List.nil_append, List.length_nil] at i1 i2 i3 i4
      have e0 : (((0 : Nat) : Int)) = 0 := rfl
      rw [e0] at i1 i2 i3 i4
      have ht := lastT_len _ _ zeroT_len hok
      have htb := lastT_byt _ _ zeroT_byt hok
      rw [i4] at ht htb
      simp only
      refine ⟨by omega, by omega, fun _ => ⟨i5, ht, htb, ?_⟩⟩
      have hml := congrArg List.length i1
      rw [List.length_map] at hml
      unfold entS
      rw [if_neg (by show ¬ goodS key zeroT 1 (frs W.1 (W.1.length + 1) 0).1 < (frs W.1 (W.1.length + 1) 0).1.length; rw [show (1 : Int) = ((1 : Nat) : Int) from rfl, i3]; omega)]
      rw [if_pos (show (frsOf W.1).2 = 0 from i2)]
      show ((frs W.1 (W.1.length + 1) 0).1.map (·.1), lastT zeroT (frs W.1 (W.1.length + 1) 0).1, (0 : Int)) = _
      rw [i1, i4]
    · rw [hQ, if_neg h0]
      exact ⟨by simp, by simp, fun h => absurd h h0⟩
  obtain ⟨q1, q2, q3⟩ := facts
  clear hQ hb1 hb2
  refine Ev.step (fun m => notarylaw47_ChainBuilds.j0.eq_2 ..) (LEv.neg (by decide) (LEv.bd Q hb1' (LEv.bd Q hb2' (LEv.pos rfl (LEv.bd _ (LSame.same_self _ (by omega)) (LEv.pos rfl (LEv.bd _ (LSame.same_self _ (by omega)) (LEv.pos rfl (LEv.eqb first_ok (LEv.eqb rfirst_ok (LEv.bd _ (LSame.same_self _ (by rw [zeroT_len]; omega)) ?_)))))))))))
  have j2 : Ev (fun m => notarylaw47_ChainBuilds.j2 m key L Q.1 Q.2.1 Q.2.2) true := by
    refine Ev.step (fun m => notarylaw47_ChainBuilds.j2.eq_2 ..) ?_
    by_cases h0 : Q.2.2 = 0
    · obtain ⟨g1, g2, g3, g4⟩ := q3 h0
      have he := entries_ev key Q.1 hk (by omega) g1 (by omega)
      have hv := verify_ev key Q.1 (L.length : Int) Q.2.1 hk (by omega) g1 (by omega) g3
      have hvt : verS key Q.1 (L.length : Int) Q.2.1 = true := by
        unfold verS
        rw [g4]
        simp
      rw [hvt] at hv
      rw [g4] at he
      have hf := (entS_fine key Q.1 g1 (by omega)).1
      rw [g4] at hf
      exact LEv.pos h0 (LEv.bd _ he (LEv.pos rfl (LEv.bd _ (alike_self L hf (by omega)) (LEv.pos rfl (LEv.bd _ (LSame.same_self _ (by simp only; omega)) (LEv.pos rfl (LEv.bd _ hv (LEv.pos rfl awake_bind))))))))
    · exact LEv.neg h0 awake_bind
  refine Ev.step (fun m => notarylaw47_ChainBuilds.j1.eq_2 ..) (LEv.neg (by decide) ?_)
  by_cases hz : (L.length : Int) > 0
  · have hm := message_ev zeroT n hn0 hn1 (rd_T42 L 0).f0 (rd_T42 L 0).f1
    have hm2 := rmessage_ev zeroT n hn0 hn1 (rd_T42 L 0).f0 (rd_T42 L 0).f1
    have hml : (msgS zeroT n (rd_T42 L 0).f0 (rd_T42 L 0).f1).1.length ≤ 2000 := by
      unfold msgS
      have hpl := LEnt.payS_len (rd_T42 L 0).f0 (rd_T42 L 0).f1
      have h8 : (LTail.be8 n).length = 8 := rfl
      rw [if_pos zeroT_len]
      split
      · simp only [List.length_append, zeroT_len, h8]
        omega
      · simp
    exact LEv.pos hz (LEv.eqb rfirst_ok (LEv.pos (by omega) (LEv.bd _ hm (LEv.eqb rfirst_ok (LEv.bd _ hm2 (LEv.pos rfl (LEv.bd _ (LSame.same_self _ (by omega)) (LEv.pos rfl j2))))))))
  · exact LEv.neg hz j2
end Go.Proofs.Ytnkkgeglnmggpaa.LChain
