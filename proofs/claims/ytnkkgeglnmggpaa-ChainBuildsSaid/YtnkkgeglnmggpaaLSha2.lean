/- A digest: a state behind a block, by the program and by the reference. -/
import Derived.Test.YtnkkgeglnmggpaaLSha1
import Derived.Test.YtnkkgeglnmggpaaPCbx1
import Derived.Test.YtnkkgeglnmggpaaPCbx2
import Derived.Test.YtnkkgeglnmggpaaPCbx9
import Derived.Test.YtnkkgeglnmggpaaPCbx11
namespace Go.Proofs.Ytnkkgeglnmggpaa.LSha
open Go.RowKit Go.Proofs.Ytnkkgeglnmggpaa.PCb Go.Proofs.YtnkkgeglnmggpaaW.PrintWords Go.Proofs.YtnkkgeglnmggpaaW.PrintLast Go.Proofs.YtnkkgeglnmggpaaW.PrintMore
set_option linter.unusedVariables false
set_option linter.unusedSimpArgs false
theorem drop_rd (l : List Int) (i : Nat) (h : i < l.length) : l.drop i = rd l (i : Int) :: l.drop (i + 1) := by
  rw [List.drop_eq_getElem_cons h, rd_at l i h]
theorem not32 : (if IntKind.u32.signed = true then -1 else IntKind.u32.max) = 4294967295 := by decide
theorem block_l0 (s : sha_behind.St) (kk ws : List Int) (hk : kk.length = 64) (hw : ws.length = 64) : ∀ (n i : Nat) (x : sha_behind.St), n + i = 64 →
    ∃ y, sha_behind.rnds (kk.drop i) (ws.drop i) x = some y ∧ Ev (fun k => notaryref03_Block.l0 k s.list kk ws x.a x.b x.c x.d x.e x.f x.g x.h (i : Int)) (sha_behind.add y s) := by
  intro n
  induction n with
  | zero =>
    intro i x hi
    refine ⟨x, ?_, ?_⟩
    · rw [List.drop_eq_nil_of_le (by omega)]; rfl
    · refine Ev.step (f := fun _ => some (sha_behind.add x s)) (fun k => ?_) (Ev.now _)
      simp only [notaryref03_Block.l0]
      rw [if_neg (by omega)]
      obtain ⟨xa, xb, xc, xd, xe, xf, xg, xh⟩ := x
      obtain ⟨sa, sb, sc, sd, se, sf, sg, sh⟩ := s
      simp only [sha_behind.St.list, sha_behind.add, List.zipWith, List.length_cons, List.length_nil]
      simp [rd, Int.add_comm]
  | succ n ih =>
    intro i x hi
    have e1 : wrap64 ((i : Int) + 1) = ((i + 1 : Nat) : Int) := by rw [w64 _ (by omega) (by omega)]; omega
    obtain ⟨y, hy, hev⟩ := ih (i + 1) ⟨(sha_behind.tt x (rd kk i) (rd ws i) (rotv x.e 6) (rotv x.e 11) (rotv x.e 25) + sha_behind.uu x (rotv x.a 2) (rotv x.a 13) (rotv x.a 22)) % 4294967296, x.a, x.b, x.c, (x.d + sha_behind.tt x (rd kk i) (rd ws i) (rotv x.e 6) (rotv x.e 11) (rotv x.e 25)) % 4294967296, x.e, x.f, x.g⟩ (by omega)
    refine ⟨y, ?_, ?_⟩
    · rw [drop_rd kk i (by omega), drop_rd ws i (by omega)]
      simp only [sha_behind.rnds, sha_behind.rnd, rp6, rp11, rp25, rp2, rp13, rp22, Option.bind_some]
      exact hy
    · refine Ev.step (f := fun k => _) (fun k => ?_) hev
      simp only [notaryref03_Block.l0]
      rw [if_pos (by omega), rr6, rr11, rr25, rr2, rr13, rr22, e1]
      simp only [Option.bind_some]
      rw [if_pos (by omega), if_pos (by omega), if_pos (by omega)]
      simp only [sha_behind.tt, sha_behind.uu, not32, u32w]
theorem st_list (l : List Int) (h : l.length = 8) : ∃ s : sha_behind.St, l = s.list ∧ sha_Block.st l = s := by
  match l, h with
  | [a, b, c, d, e, f, g, h], _ => exact ⟨⟨a, b, c, d, e, f, g, h⟩, rfl, rfl⟩
/-- a state behind a block -/
theorem block_ev (st b kk : List Int) (hs : st.length = 8) (hb : Byt b) (hl : b.length = 64) (hk : kk.length = 64) :
    ∃ r, sha_behind.f kk b (sha_Block.st st) = some r ∧ Ev (fun k => notaryref03_Block.f k st b kk) r ∧ W32 r ∧ r.length = 8 := by
  obtain ⟨s, rfl, hst⟩ := st_list st hs
  rw [hst]
  obtain ⟨ws, hws, hnev, hww, hwl⟩ := numbers_ev b hb hl
  obtain ⟨y, hy, hev⟩ := block_l0 s kk ws hk hwl 64 0 s rfl
  refine ⟨sha_behind.add y s, ?_, ?_, ?_, ?_⟩
  · unfold sha_behind.f
    rw [hws, Option.bind_some]
    rw [List.drop_zero, List.drop_zero] at hy
    rw [hy]; rfl
  · refine Ev.bind (f := fun k a => _) hnev ?_
    refine Ev.congr (f := fun k => notaryref03_Block.l0 k s.list kk ws s.a s.b s.c s.d s.e s.f s.g s.h ((0 : Nat) : Int)) (fun k => ?_) hev
    simp only [sha_behind.St.list, List.length_cons, List.length_nil]
    simp [rd]
  · intro x hx
    simp only [sha_behind.add, List.zipWith, sha_behind.St.list, List.mem_cons, List.not_mem_nil, or_false] at hx
    rcases hx with rfl | rfl | rfl | rfl | rfl | rfl | rfl | rfl <;> omega
  · simp [sha_behind.add, sha_behind.St.list]
theorem first_l0 (ps : List Int) (hp : ps.length = 8) (hb : ∀ p ∈ ps, 0 ≤ p ∧ p < 1000) : ∀ (n i : Nat) (x1 : List Int), n + i = 8 → x1.length + n < 1000 →
    ∃ l, sha_first.go (ps.drop i) = some l ∧ Ev (fun k => notaryref03_Start.l0 k x1 ps (i : Int)) (x1 ++ l) ∧ W32 l := by
  intro n
  induction n with
  | zero =>
    intro i x1 hi hx
    refine ⟨[], ?_, ?_, fun x hx => by cases hx⟩
    · rw [List.drop_eq_nil_of_le (by omega)]; rfl
    · refine Ev.step (f := fun _ => some x1) (fun k => ?_) (by rw [List.append_nil]; exact Ev.now _)
      simp only [notaryref03_Start.l0]
      rw [if_neg (by omega)]
  | succ n ih =>
    intro i x1 hi hx
    have hlt : i < ps.length := by omega
    have hbp := hb ps[i] (List.getElem_mem _)
    obtain ⟨T, hT, hR, hTb⟩ := Ytnkkgeglnmggpaa.LRoot.square_is ps[i]
    have hev := Ytnkkgeglnmggpaa.LRoot.root2_ev ps[i] (by omega) T hR
    have e1 : wrap64 ((i : Int) + 1) = ((i + 1 : Nat) : Int) := by rw [w64 _ (by omega) (by omega)]; omega
    obtain ⟨l, hl, hle, hw⟩ := ih (i + 1) (x1 ++ [(T : Int) % 4294967296]) (by omega) (by simp; omega)
    refine ⟨(T : Int) % 4294967296 :: l, ?_, ?_, ?_⟩
    · rw [List.drop_eq_getElem_cons hlt]
      simp only [sha_first.go, hT, hl, Option.bind_some]
    · refine Ev.step (f := fun k => (notaryref02_Root.f k ps[i] 2).bind fun t => if x1.length < 35184372088832 then notaryref03_Start.l0 k (x1 ++ [t % 4294967296]) ps ((i + 1 : Nat) : Int) else none) (fun k => ?_) ?_
      · simp only [notaryref03_Start.l0]
        rw [if_pos (by omega), if_pos (by omega), if_pos (by omega), rd_at ps i hlt, e1]
      · refine Ev.bind (f := fun k t => if x1.length < 35184372088832 then notaryref03_Start.l0 k (x1 ++ [t % 4294967296]) ps ((i + 1 : Nat) : Int) else none) hev ?_
        refine Ev.congr (f := fun k => notaryref03_Start.l0 k (x1 ++ [(T : Int) % 4294967296]) ps ((i + 1 : Nat) : Int)) (fun k => if_pos (by omega)) ?_
        simpa using hle
    · intro x hx
      rcases List.mem_cons.1 hx with rfl | hx
      · omega
      · exact hw x hx
theorem first_ev : ∃ l, sha_first.f = some l ∧ Ev (fun k => notaryref03_Start.f k) l ∧ W32 l ∧ l.length = 8 := by
  have hps := Ytnkkgeglnmggpaa.LRoot.primes_is 8
  have hrp := Ytnkkgeglnmggpaa.LRoot.rprimes_ev 8
  rw [show Ytnkkgeglnmggpaa.LRoot.many 8 = 8 from by decide] at hps hrp
  have hb : ∀ p ∈ Ytnkkgeglnmggpaa.SRoot.primes.take 8, 0 ≤ p ∧ p < 1000 := by decide +kernel
  have hl : (Ytnkkgeglnmggpaa.SRoot.primes.take 8).length = 8 := by decide +kernel
  generalize Ytnkkgeglnmggpaa.SRoot.primes.take 8 = ps at *
  obtain ⟨l, hg, hev, hw⟩ := first_l0 ps hl hb 8 0 [] rfl (by simp)
  rw [List.drop_zero] at hg
  have hf : sha_first.f = some l := by unfold sha_first.f; rw [hps, Option.bind_some, if_pos hl]; exact hg
  refine ⟨l, hf, ?_, hw, sha_first.len8 hf⟩
  refine Ev.bind (f := fun k t => notaryref03_Start.l0 k (([] : List Int)) t 0) hrp ?_
  simpa using hev
theorem rounds_l0 (ps : List Int) (hp : ps.length = 64) (hb : ∀ p ∈ ps, 0 ≤ p ∧ p < 1000) : ∀ (n i : Nat) (x1 : List Int), n + i = 64 → x1.length + n < 1000 →
    ∃ l, sha_rounds.go (ps.drop i) = some l ∧ Ev (fun k => notaryref03_Rounds.l0 k x1 ps (i : Int)) (x1 ++ l) ∧ W32 l := by
  intro n
  induction n with
  | zero =>
    intro i x1 hi hx
    refine ⟨[], ?_, ?_, fun x hx => by cases hx⟩
    · rw [List.drop_eq_nil_of_le (by omega)]; rfl
    · refine Ev.step (f := fun _ => some x1) (fun k => ?_) (by rw [List.append_nil]; exact Ev.now _)
      simp only [notaryref03_Rounds.l0]
      rw [if_neg (by omega)]
  | succ n ih =>
    intro i x1 hi hx
    have hlt : i < ps.length := by omega
    have hbp := hb ps[i] (List.getElem_mem _)
    obtain ⟨T, hT, hR, hTb⟩ := Ytnkkgeglnmggpaa.LRoot.cube_is ps[i]
    have hev := Ytnkkgeglnmggpaa.LRoot.root3_ev ps[i] (by omega) T hR
    have e1 : wrap64 ((i : Int) + 1) = ((i + 1 : Nat) : Int) := by rw [w64 _ (by omega) (by omega)]; omega
    obtain ⟨l, hl, hle, hw⟩ := ih (i + 1) (x1 ++ [(T : Int) % 4294967296]) (by omega) (by simp; omega)
    refine ⟨(T : Int) % 4294967296 :: l, ?_, ?_, ?_⟩
    · rw [List.drop_eq_getElem_cons hlt]
      simp only [sha_rounds.go, hT, hl, Option.bind_some]
    · refine Ev.step (f := fun k => (notaryref02_Root.f k ps[i] 3).bind fun t => if x1.length < 35184372088832 then notaryref03_Rounds.l0 k (x1 ++ [t % 4294967296]) ps ((i + 1 : Nat) : Int) else none) (fun k => ?_) ?_
      · simp only [notaryref03_Rounds.l0]
        rw [if_pos (by omega), if_pos (by omega), if_pos (by omega), rd_at ps i hlt, e1]
      · refine Ev.bind (f := fun k t => if x1.length < 35184372088832 then notaryref03_Rounds.l0 k (x1 ++ [t % 4294967296]) ps ((i + 1 : Nat) : Int) else none) hev ?_
        refine Ev.congr (f := fun k => notaryref03_Rounds.l0 k (x1 ++ [(T : Int) % 4294967296]) ps ((i + 1 : Nat) : Int)) (fun k => if_pos (by omega)) ?_
        simpa using hle
    · intro x hx
      rcases List.mem_cons.1 hx with rfl | hx
      · omega
      · exact hw x hx
theorem rounds_ev : ∃ l, sha_rounds.f = some l ∧ Ev (fun k => notaryref03_Rounds.f k) l ∧ W32 l ∧ l.length = 64 := by
  have hps := Ytnkkgeglnmggpaa.LRoot.primes_is 64
  have hrp := Ytnkkgeglnmggpaa.LRoot.rprimes_ev 64
  rw [show Ytnkkgeglnmggpaa.LRoot.many 64 = 64 from by decide] at hps hrp
  have hb : ∀ p ∈ Ytnkkgeglnmggpaa.SRoot.primes.take 64, 0 ≤ p ∧ p < 1000 := by decide +kernel
  have hl : (Ytnkkgeglnmggpaa.SRoot.primes.take 64).length = 64 := by decide +kernel
  generalize Ytnkkgeglnmggpaa.SRoot.primes.take 64 = ps at *
  obtain ⟨l, hg, hev, hw⟩ := rounds_l0 ps hl hb 64 0 [] rfl (by simp)
  rw [List.drop_zero] at hg
  have hf : sha_rounds.f = some l := by unfold sha_rounds.f; rw [hps, Option.bind_some, if_pos hl]; exact hg
  refine ⟨l, hf, ?_, hw, sha_rounds.len64 hf⟩
  refine Ev.bind (f := fun k t => notaryref03_Rounds.l0 k (([] : List Int)) t 0) hrp ?_
  simpa using hev
end Go.Proofs.Ytnkkgeglnmggpaa.LSha
