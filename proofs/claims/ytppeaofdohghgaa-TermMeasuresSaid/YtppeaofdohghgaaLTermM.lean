/- Terms: sizes, depths, paths, and copies without places, as both programs tell them. -/
import Derived.Test.YtppeaofdohghgaaLTermP
import Derived.Test.YtppeaofdohghgaaPTmx1
import Derived.Test.YtppeaofdohghgaaPTmx2
import Derived.Test.YtppeaofdohghgaaPTmx9
import Derived.Test.YtppeaofdohghgaaPTmx10
namespace Go.Proofs.Ytppeaofdohghgaa.LTerm
open Go.RowKit Go.Proofs.Ytppeaofdohghgaa.PTm Go.Proofs.YtppeaofdohghgaaW.PrintWords Go.Proofs.YtppeaofdohghgaaW.PrintLast Go.Proofs.YtppeaofdohghgaaW.PrintMore
set_option linter.unusedVariables false
set_option linter.unusedSimpArgs false
theorem depth_ev (t : T) (n : Nat) (hS : Small n t) (hn : n ≤ 1000) (hz : sz t ≤ 1000000) : Ev (fun m => term_Depth.f m t.f0 t.f1 t.f2 t.f3 t.f4 t.f5) (dep t : Int) := by
  have h := walk_ev t n [] (0, 0) hS (by simp; omega) (by simp) (by simp only; omega) (by simp) (by simp)
  refine Ev.congr (fun m => term_Depth.f.eq_1 ..) ?_
  cases t
  exact LEv.bd _ h (LEv.fin (by simp only [List.length_nil]; omega))
theorem refsize_ev (t : T) : Fine t → sz t ≤ 1000000 → Ev (fun m => notaryref06_Size.f m t.f0 t.f1 t.f2 t.f3 t.f4 t.f5) (sz t : Int) := by
  induction t using ind with
  | h t ih =>
  intro hF hz
  have hlen := hF.len
  have e := sz_eq t
  have key : ∀ (rest pre : List T) (b : Int), t.f3 = pre ++ rest → 0 ≤ b → b + ((rest.map sz).sum : Nat) ≤ 1000000 → Ev (fun m => notaryref06_Size.l0 m b (pre.length : Int) t.f0 t.f1 t.f2 t.f3 t.f4 t.f5) (b + ((rest.map sz).sum : Nat)) := by
    intro rest
    induction rest with
    | nil => exact fun pre b he h0 h1 => Ev.step (fun m => notaryref06_Size.l0.eq_2 ..) (LEv.neg (by rw [he]; simp) (LEv.fin (by simp)))
    | cons y rest ih2 =>
      intro pre b he h0 h1
      simp only [List.map_cons, List.sum_cons] at h1 ⊢
      have hy : y ∈ t.f3 := by rw [he]; simp
      have e1 : rd_T24 t.f3 (pre.length : Int) = y := by rw [he]; exact rdT _ _ _
      have hs := ih2 (pre ++ [y]) (b + (sz y : Int)) (by rw [he]; simp) (by omega) (by omega)
      rw [len1 pre y] at hs
      refine Ev.step (fun m => notaryref06_Size.l0.eq_2 ..) (LEv.pos (by rw [he]; exact lenlt _ _ _) (LEv.pos (by omega) ?_))
      rw [e1, up1 _ (by rw [he] at hlen; simp at hlen; omega)]
      refine LEv.bd _ (ih y hy (hF.sub hy) (by omega)) ?_
      rw [LEv.w64 _ (by omega) (by omega)]
      exact LEv.val (by omega) hs
  exact Ev.step (fun m => notaryref06_Size.f.eq_2 ..) (LEv.val (by omega) (key t.f3 [] 1 rfl (by omega) (by omega)))
theorem refdepth_ev (t : T) : ∀ n, Small n t → n ≤ 1000000 → Ev (fun m => notaryref06_Depth.f m t.f0 t.f1 t.f2 t.f3 t.f4 t.f5) (dep t : Int) := by
  induction t using ind with
  | h t ih =>
  intro n hS hn
  obtain ⟨k, rfl⟩ := hS.pos
  have hlen := hS.len
  have hd := dep_small hS
  have e := dep_eq t
  have key : ∀ (rest pre : List T) (b : Int), t.f3 = pre ++ rest → 0 ≤ b → b ≤ 1000000 → Ev (fun m => notaryref06_Depth.l0 m b (pre.length : Int) t.f0 t.f1 t.f2 t.f3 t.f4 t.f5) (max b ((mxs (rest.map dep) : Nat) : Int) + 1) := by
    intro rest
    induction rest with
    | nil =>
      intro pre b he h0 h1
      refine Ev.step (fun m => notaryref06_Depth.l0.eq_2 ..) (LEv.neg (by rw [he]; simp) (LEv.fin ?_))
      rw [LEv.w64 _ (by omega) (by omega)]
      simp only [List.map_nil, mxs]
      omega
    | cons y rest ih2 =>
      intro pre b he h0 h1
      simp only [List.map_cons, mxs]
      have hy : y ∈ t.f3 := by rw [he]; simp
      have hdy := dep_small (hS.sub hy)
      have e1 : rd_T24 t.f3 (pre.length : Int) = y := by rw [he]; exact rdT _ _ _
      refine Ev.step (fun m => notaryref06_Depth.l0.eq_2 ..) (LEv.pos (by rw [he]; exact lenlt _ _ _) (LEv.pos (by omega) ?_))
      rw [e1, up1 _ (by rw [he] at hlen; simp at hlen; omega)]
      refine LEv.bd _ (ih y hy k (hS.sub hy) (by omega)) ?_
      have hs := fun c h2 h3 => ih2 (pre ++ [y]) c (by rw [he]; simp) h2 h3
      rw [len1 pre y] at hs
      by_cases hc : (dep y : Int) > b
      · exact LEv.pos hc (LEv.val (by omega) (hs (dep y : Int) (by omega) (by omega)))
      · exact LEv.neg hc (LEv.val (by omega) (hs b h0 h1))
  exact Ev.step (fun m => notaryref06_Depth.f.eq_2 ..) (LEv.val (by omega) (key t.f3 [] 0 rfl (by omega) (by omega)))
theorem bare_both (x : T) : ∀ n, Small n x → ∃ r : T, Ev (fun m => term_Bare.f m x) r ∧ Ev (fun m => notaryref06_Bare.f m x.f0 x.f1 x.f2 x.f3 x.f4 x.f5) (tup6 r) ∧ Small n r := by
  induction x using ind with
  | h x ih =>
  intro n hS
  have hlen := hS.len
  obtain ⟨n, rfl⟩ := hS.pos
  have key : ∀ (rest pre rs : List T), x.f3 = pre ++ rest → rs.length = pre.length → ∃ ss : List T, ss.length = rest.length ∧ (∀ y ∈ ss, Small n y) ∧ Ev (fun m => term_Bare.all (term_Bare.f m) rest) ss ∧ Ev (fun m => notaryref06_Bare.l0 m rs (pre.length : Int) x.f0 x.f1 x.f2 x.f3 x.f4 x.f5) (tup6 ⟨x.f0, x.f1, x.f2, rs ++ ss, 0, 0⟩) := by
    intro rest
    induction rest with
    | nil =>
      intro pre rs he hl
      exact ⟨[], rfl, fun y hy => by simp at hy, Ev.now _, Ev.step (fun m => notaryref06_Bare.l0.eq_2 ..) (LEv.neg (by rw [he]; simp) (LEv.fin (by simp [tup6])))⟩
    | cons y rest ih2 =>
      intro pre rs he hl
      have hy : y ∈ x.f3 := by rw [he]; simp
      have e1 : rd_T24 x.f3 (pre.length : Int) = y := by rw [he]; exact rdT _ _ _
      obtain ⟨r, r1, r2, r3⟩ := ih y hy n (hS.sub hy)
      obtain ⟨ss, s1, s2, s3, s4⟩ := ih2 (pre ++ [y]) (rs ++ [r]) (by rw [he]; simp) (by simp [hl])
      refine ⟨r :: ss, by simp [s1], fun z hz => ?_, LEv.bd r r1 (LEv.bd ss s3 (Ev.now _)), ?_⟩
      · rcases List.mem_cons.1 hz with rfl | hz
        · exact r3
        · exact s2 z hz
      · rw [len1 pre y, List.append_assoc] at s4
        refine Ev.step (fun m => notaryref06_Bare.l0.eq_2 ..) (LEv.pos (by rw [he]; exact lenlt _ _ _) (LEv.pos (by omega) ?_))
        rw [e1, up1 _ (by rw [he] at hlen; simp at hlen; omega)]
        refine LEv.bd _ r2 (LEv.pos (by rw [he] at hlen; simp at hlen; omega) ?_)
        cases r
        exact s4
  obtain ⟨ss, s1, s2, s3, s4⟩ := key x.f3 [] [] rfl rfl
  exact ⟨⟨x.f0, x.f1, x.f2, ss, 0, 0⟩, Ev.step (fun m => term_Bare.f.eq_2 ..) (LEv.pos (by omega) (LEv.bd ss s3 (Ev.now _))), Ev.step (fun m => notaryref06_Bare.f.eq_2 ..) s4, Small.mk n _ (by simp only; omega) s2⟩
theorem rdL (pre : List (List Int)) (r : List Int) (rest : List (List Int)) : rd_L1 (pre ++ r :: rest) (pre.length : Int) = r := by
  unfold rd_L1
  simp [List.getD_eq_getElem?_getD]
/-- a term's paths -/
theorem paths_both (t : T) : ∀ n, Small n t → n ≤ 1000 → sz t ≤ 100000 → ∃ L : List (List Int), L.length = sz t ∧ (∀ q ∈ L, q.length < n) ∧ (∀ (p : List Int) (s : List (List Int)), p.length + n ≤ 100000 → s.length + sz t ≤ 1000000 → Ev (fun m => term_walk.f term_list.see m t p s) (s ++ L.map (p ++ ·))) ∧ Ev (fun m => notaryref06_Paths.f m t.f0 t.f1 t.f2 t.f3 t.f4 t.f5) L := by
  induction t using ind with
  | h t ih =>
  intro n hS hn hz
  obtain ⟨n, rfl⟩ := hS.pos
  have hlen := hS.len
  have e := sz_eq t
  have inner : ∀ (i : Int) (M : List (List Int)) (r : List (List Int)) (k : Nat), (∀ q ∈ M, q.length < 1000) → M.length ≤ 100000 → ∀ (rest pre out : List (List Int)), M = pre ++ rest → out.length + rest.length ≤ 1000000 →
      Ev (fun m => notaryref06_Paths.l0 m (out ++ rest.map (i :: ·)) (wrap64 (i + 1)) t.f0 t.f1 t.f2 t.f3 t.f4 t.f5) r → Ev (fun m => notaryref06_Paths.l1 m out i M (pre.length : Int) t.f0 t.f1 t.f2 t.f3 t.f4 t.f5) r := by
    intro i M r k hM hML rest
    induction rest with
    | nil =>
      intro pre out he ho h
      rw [List.map_nil, List.append_nil] at h
      exact Ev.step (fun m => notaryref06_Paths.l1.eq_2 ..) (LEv.neg (by rw [he]; simp) h)
    | cons q rest ih2 =>
      intro pre out he ho h
      have hq := hM q (by rw [he]; simp)
      have e1 : rd_L1 M (pre.length : Int) = q := by rw [he]; exact rdL _ _ _
      refine Ev.step (fun m => notaryref06_Paths.l1.eq_2 ..) (LEv.pos (by rw [he]; exact lenlt _ _ _) (LEv.sb (LEv.pos (by omega) ?_)))
      rw [e1, up1 _ (by rw [he] at hML; simp at hML; omega), ← len1 pre q]
      refine LEv.pos (by simp; omega) (LEv.pos (by simp at ho; omega) ?_)
      refine ih2 (pre ++ [q]) (out ++ [[i] ++ q]) (by rw [he]; simp) (by simp at ho ⊢; omega) ?_
      rw [List.append_assoc]
      exact h
  have key : ∀ (rest pre : List T), t.f3 = pre ++ rest → ∃ L : List (List Int), L.length = (rest.map sz).sum ∧ (∀ q ∈ L, q.length < n + 1) ∧ (∀ (p : List Int) (s : List (List Int)), p.length + n + 1 ≤ 100000 → s.length + (rest.map sz).sum ≤ 1000000 → Ev (fun m => term_walk.all (fun i x s' => term_walk.f term_list.see m x (p ++ [i]) s') rest (pre.length : Int) s) (s ++ L.map (p ++ ·))) ∧
      ∀ out : List (List Int), out.length + (rest.map sz).sum ≤ 1000000 → Ev (fun m => notaryref06_Paths.l0 m out (pre.length : Int) t.f0 t.f1 t.f2 t.f3 t.f4 t.f5) (out ++ L) := by
    intro rest
    induction rest with
    | nil =>
      intro pre he
      exact ⟨[], rfl, fun q hq => by simp at hq, fun p s _ _ => LEv.fin (by simp), fun out _ => Ev.step (fun m => notaryref06_Paths.l0.eq_2 ..) (LEv.neg (by rw [he]; simp) (LEv.fin (by simp)))⟩
    | cons y rest ih2 =>
      intro pre he
      have hy : y ∈ t.f3 := by rw [he]; simp
      have hzy : sz y ≤ sz t := by have := mem_sum y t.f3 hy; omega
      have e1 : rd_T24 t.f3 (pre.length : Int) = y := by rw [he]; exact rdT _ _ _
      have e2 := up1 pre.length (by rw [he] at hlen; simp at hlen; omega)
      have hnp : ∃ k, n = k + 1 := (hS.sub hy).pos
      obtain ⟨M, m1, m2, m3, m4⟩ := ih y hy n (hS.sub hy) (by omega) (by omega)
      obtain ⟨L, l1, l2, l3, l4⟩ := ih2 (pre ++ [y]) (by rw [he]; simp)
      refine ⟨M.map ((pre.length : Int) :: ·) ++ L, by simp [m1, l1], fun q hq => ?_, fun p s hp hs => ?_, fun out ho => ?_⟩
      · rcases List.mem_append.1 hq with hq | hq
        · obtain ⟨q', hq', rfl⟩ := List.mem_map.1 hq
          have := m2 q' hq'
          simp only [List.length_cons]
          omega
        · exact l2 q hq
      · simp only [List.map_cons, List.sum_cons] at hs
        have a1 := m3 (p ++ [(pre.length : Int)]) s (by simp; omega) (by omega)
        have a2 := l3 p (s ++ M.map ((p ++ [(pre.length : Int)]) ++ ·)) hp (by simp [m1]; omega)
        rw [len1 pre y] at a2
        refine LEv.bd _ a1 (LEv.val ?_ a2)
        simp [List.map_append, List.map_map, Function.comp_def, List.append_assoc]
      · simp only [List.map_cons, List.sum_cons] at ho
        have a2 := l4 (out ++ M.map ((pre.length : Int) :: ·)) (by simp [m1]; omega)
        rw [len1 pre y, ← e2] at a2
        refine Ev.step (fun m => notaryref06_Paths.l0.eq_2 ..) (LEv.pos (by rw [he]; exact lenlt _ _ _) (LEv.pos (by omega) ?_))
        rw [e1]
        refine LEv.bd M m4 (inner (pre.length : Int) M _ 0 (fun q hq => by have := m2 q hq; omega) (by omega) M [] out rfl (by rw [m1]; omega) ?_)
        rw [← List.append_assoc]
        exact a2
  obtain ⟨L, l1, l2, l3, l4⟩ := key t.f3 [] rfl
  refine ⟨[] :: L, by simp [l1]; omega, fun q hq => ?_, fun p s hp hs => ?_, Ev.step (fun m => notaryref06_Paths.f.eq_2 ..) (l4 [[]] (by simp; omega))⟩
  · rcases List.mem_cons.1 hq with rfl | hq
    · simp
    · exact l2 q hq
  · have hsee : term_list.see s p = some (s ++ [p]) := by
      unfold term_list.see slices_Clone_int_int.f
      rw [if_pos (by omega), if_pos (by omega)]
      rfl
    refine Ev.step (fun m => term_walk.f.eq_2 ..) (LEv.pos (by omega) (LEv.eqb hsee (LEv.val ?_ (l3 p (s ++ [p]) (by omega) (by simp; omega)))))
    simp
end Go.Proofs.Ytppeaofdohghgaa.LTerm
