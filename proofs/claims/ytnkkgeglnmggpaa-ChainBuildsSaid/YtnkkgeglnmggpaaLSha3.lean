/- A digest: what Sum answers, by the program and by the reference. -/
import Derived.Test.YtnkkgeglnmggpaaLSha2
import Derived.Test.YtnkkgeglnmggpaaLTail
import Derived.Test.YtnkkgeglnmggpaaPCbx3
import Derived.Test.YtnkkgeglnmggpaaPCbx12
namespace Go.Proofs.Ytnkkgeglnmggpaa.LSha
open Go.RowKit Go.Proofs.Ytnkkgeglnmggpaa.PCb Go.Proofs.YtnkkgeglnmggpaaW.PrintWords Go.Proofs.YtnkkgeglnmggpaaW.PrintLast Go.Proofs.YtnkkgeglnmggpaaW.PrintMore
set_option linter.unusedVariables false
set_option linter.unusedSimpArgs false
theorem st_self (s : sha_behind.St) : sha_Block.st s.list = s := rfl
theorem list_st (l : List Int) (h : l.length = 8) : (sha_Block.st l).list = l := sha_Block.st_list h
theorem run_succ (kk l : List Int) (s : sha_behind.St) (hk : kk.length = 64) (hb : Byt l) (hl : 64 ≤ l.length) :
    ∃ t : sha_behind.St, sha_behind.f kk (l.take 64) s = some t.list ∧ Ev (fun k => notaryref03_Block.f k s.list (l.take 64) kk) t.list ∧ W32 t.list ∧ ∀ q, sha_Sum.run kk (q + 1) l s = sha_Sum.run kk q (l.drop 64) t := by
  obtain ⟨r, hr, hev, hw, hrl⟩ := block_ev s.list (l.take 64) kk rfl (fun x hx => hb x (List.mem_of_mem_take hx)) (by rw [List.length_take]; omega) hk
  rw [st_self] at hr
  refine ⟨sha_Block.st r, ?_, ?_, ?_, ?_⟩
  · rw [list_st r hrl]; exact hr
  · rw [list_st r hrl]; exact hev
  · rw [list_st r hrl]; exact hw
  · intro q
    unfold sha_behind.f at hr
    obtain ⟨ws, hws, h1⟩ := Option.bind_eq_some_iff.mp hr
    obtain ⟨x, hx, h2⟩ := Option.bind_eq_some_iff.mp h1
    obtain rfl := Option.some.inj h2
    simp only [sha_Sum.run, hws, hx, Option.bind_some]
theorem run_append (kk : List Int) : ∀ (a b : Nat) (l : List Int) (s : sha_behind.St), sha_Sum.run kk (a + b) l s = (sha_Sum.run kk a l s).bind fun t => sha_Sum.run kk b (l.drop (64 * a)) t
  | 0, b, l, s => by simp [sha_Sum.run]
  | a + 1, b, l, s => by
    rw [show a + 1 + b = (a + b) + 1 by omega]
    simp only [sha_Sum.run, Option.bind_assoc]
    congr 1
    funext ws
    congr 1
    funext x
    rw [run_append kk a b]
    congr 1
    funext t
    rw [List.drop_drop]; congr 2; omega
theorem run_ahead (kk r : List Int) : ∀ (a : Nat) (l : List Int) (s : sha_behind.St), 64 * a ≤ l.length → sha_Sum.run kk a (l ++ r) s = sha_Sum.run kk a l s
  | 0, l, s, h => rfl
  | a + 1, l, s, h => by
    simp only [sha_Sum.run]
    rw [List.take_append_of_le_length (by omega), List.drop_append_of_le_length (by omega)]
    congr 1
    funext ws
    congr 1
    funext x
    rw [run_ahead kk r a _ _ (by rw [List.length_drop]; omega)]
theorem take_drop' (l : List Int) (i : Nat) (h : 64 * i < 9223372036854775000) : (l.take (wrap64 (64 * (i : Int) + 64) : Int).toNat).drop (64 * (i : Int)).toNat = (l.drop (64 * i)).take 64 := by
  rw [w64 _ (by omega) (by omega), show (64 * (i : Int) + 64).toNat = 64 * i + 64 by omega, show (64 * (i : Int)).toNat = 64 * i by omega]
  exact sha_Sum.take_drop l i
/-- the blocks one behind the other -/
theorem sum_l0 (all kk : List Int) (hk : kk.length = 64) (hb : Byt all) (hbig : all.length < 1000000) : ∀ (n i : Nat) (s : sha_behind.St), all.length = 64 * (n + i) → (n = 0 → W32 s.list) →
    ∃ y, sha_Sum.run kk n (all.drop (64 * i)) s = some y ∧ W32 y.list ∧ ∀ R, Ev (fun k => notaryref03_Sum.l1 k y.list [] 0) R → Ev (fun k => notaryref03_Sum.l0 k all kk s.list (64 * (i : Int))) R := by
  intro n
  induction n with
  | zero =>
    intro i s hi hw
    refine ⟨s, rfl, hw rfl, fun R hR => ?_⟩
    refine Ev.step (f := fun k => notaryref03_Sum.l1 k s.list [] 0) (fun k => ?_) hR
    simp only [notaryref03_Sum.l0]
    rw [w64 _ (by omega) (by omega), if_neg (by omega)]
  | succ n ih =>
    intro i s hi hw
    obtain ⟨t, ht, hev, htw, hrun⟩ := run_succ kk (all.drop (64 * i)) s hk (fun x hx => hb x (List.mem_of_mem_drop hx)) (by rw [List.length_drop]; omega)
    obtain ⟨y, hy, hyw, hR⟩ := ih (i + 1) t (by omega) (fun _ => htw)
    refine ⟨y, ?_, hyw, fun R h => ?_⟩
    · rw [hrun, List.drop_drop]; exact hy
    · refine Ev.step (f := fun k => (notaryref03_Block.f k s.list ((all.drop (64 * i)).take 64) kk).bind fun t => notaryref03_Sum.l0 k all kk t (64 * ((i + 1 : Nat) : Int))) (fun k => ?_) ?_
      · simp only [notaryref03_Sum.l0]
        rw [take_drop' all i (by omega), w64 _ (by omega) (by omega), if_pos (by omega), if_pos (by omega), if_pos (by omega), show (64 * (i : Int) + 64) = 64 * ((i + 1 : Nat) : Int) by omega]
      · exact Ev.bind (f := fun k t => notaryref03_Sum.l0 k all kk t (64 * ((i + 1 : Nat) : Int))) hev (hR R h)
theorem sum_l1 (y : sha_behind.St) (hw : W32 y.list) : ∀ (n i : Nat), n + i = 8 → Ev (fun k => notaryref03_Sum.l1 k y.list ((y.list.take i).flatMap sha_Sum.bytes) (i : Int)) (y.list.flatMap sha_Sum.bytes) := by
  intro n
  induction n with
  | zero =>
    intro i hi
    obtain rfl : i = 8 := by omega
    refine Ev.step (f := fun _ => some (y.list.flatMap sha_Sum.bytes)) (fun k => ?_) (Ev.now _)
    simp only [notaryref03_Sum.l1]
    rw [if_neg (by omega)]; rfl
  | succ n ih =>
    intro i hi
    have e1 : wrap64 ((i : Int) + 1) = ((i + 1 : Nat) : Int) := by rw [w64 _ (by omega) (by omega)]; omega
    have hl : y.list.length = 8 := rfl
    have hz : rd y.list (i : Int) = y.list[i]'(by omega) := rd_at y.list i (by omega)
    have hzw := hw (y.list[i]'(by omega)) (List.getElem_mem _)
    have hlen : ((y.list.take i).flatMap sha_Sum.bytes).length < 1000 := by rw [sha_Sum.bytes_length, List.length_take]; omega
    refine Ev.step (f := fun k => notaryref03_Sum.l1 k y.list ((y.list.take (i + 1)).flatMap sha_Sum.bytes) ((i + 1 : Nat) : Int)) (fun k => ?_) (ih (i + 1) (by omega))
    simp only [notaryref03_Sum.l1, Option.bind_some]
    rw [if_pos (by omega), if_pos (by omega), if_pos (by omega), sha_Sum.step y i (by omega), e1]
    rw [if_pos (by simp only [List.length_cons, List.length_nil]; omega)]
    congr 2
    rw [hz]
    generalize y.list[i]'(by omega) = z at *
    unfold sha_Sum.bytes
    rw [Int.tdiv_eq_ediv_of_nonneg hzw.1, Int.tdiv_eq_ediv_of_nonneg hzw.1, Int.tdiv_eq_ediv_of_nonneg hzw.1, Int.tmod_eq_emod_of_nonneg hzw.1]
    congr 1
    · omega
    · congr 1
      · omega
      · congr 1
        · omega
        · congr 1
          omega
/-- what both answer -/
theorem sum_both (l : List Int) (hb : Byt l) (hbig : l.length < 500000) :
    ∃ (kk s0 : List Int) (y : sha_behind.St), sha_rounds.f = some kk ∧ sha_first.f = some s0 ∧ kk.length = 64 ∧ s0.length = 8 ∧
      sha_Sum.run kk ((l ++ Ytnkkgeglnmggpaa.LTail.tail (l.length : Int)).length / 64) (l ++ Ytnkkgeglnmggpaa.LTail.tail (l.length : Int)) (sha_Block.st s0) = some y ∧ W32 y.list ∧
      Ev (fun k => sha_Sum.f k l) (y.list.flatMap sha_Sum.bytes) ∧ Ev (fun k => notaryref03_Sum.f k l) (y.list.flatMap sha_Sum.bytes) := by
  obtain ⟨kk, hkk, hrk, hkw, hkl⟩ := rounds_ev
  obtain ⟨s0, hs0, hrs, hsw, hsl⟩ := first_ev
  have htl := Ytnkkgeglnmggpaa.LTail.tail_ev (l.length : Int) (by omega) (by omega)
  have hrtl := Ytnkkgeglnmggpaa.LTail.rtail_ev (l.length : Int) (by omega) (by omega)
  have htb : Byt (Ytnkkgeglnmggpaa.LTail.tail (l.length : Int)) := Ytnkkgeglnmggpaa.LTail.tail_byt _
  have hgl := Ytnkkgeglnmggpaa.LTail.gap_lt (l.length : Int)
  have hga := Ytnkkgeglnmggpaa.LTail.gap_all (l.length : Int)
  have hln := Ytnkkgeglnmggpaa.LTail.tail_length (l.length : Int)
  generalize Ytnkkgeglnmggpaa.LTail.tail (l.length : Int) = tl at *
  generalize Ytnkkgeglnmggpaa.LTail.gap (l.length : Int) = gp at *
  obtain ⟨n, hn⟩ : ∃ n, (l ++ tl).length = 64 * n := ⟨(l ++ tl).length / 64, by rw [List.length_append]; omega⟩
  have hl2 : (l ++ tl).length = l.length + tl.length := List.length_append
  have hall : Byt (l ++ tl) := fun x hx => (List.mem_append.1 hx).elim (hb x) (htb x)
  obtain ⟨y, hy, hyw, hR⟩ := sum_l0 (l ++ tl) kk hkl hall (by omega) n 0 (sha_Block.st s0) (by omega) (fun _ => by rw [list_st s0 hsl]; exact hsw)
  have hd : (l ++ tl).length / 64 = n := by omega
  rw [Nat.mul_zero, List.drop_zero] at hy
  refine ⟨kk, s0, y, hkk, hs0, hkl, hsl, by rw [hd]; exact hy, hyw, ?_, ?_⟩
  · unfold sha_Sum.f
    rw [hkk, hs0]
    simp only [Option.bind_some]
    have hsplit : n = l.length / 64 + ((l.drop (l.length / 64 * 64)) ++ tl).length / 64 := by
      rw [List.length_append, List.length_drop]; omega
    have hmod : ((l.drop (l.length / 64 * 64)) ++ tl).length % 64 = 0 ∧ tl.length < 1000 := by
      rw [List.length_append, List.length_drop]; omega
    rw [hsplit, run_append, run_ahead kk tl _ l _ (by omega)] at hy
    obtain ⟨s1, hs1, hs2⟩ := Option.bind_eq_some_iff.mp hy
    rw [List.drop_append_of_le_length (by omega), show 64 * (l.length / 64) = l.length / 64 * 64 by omega] at hs2
    refine Ev.congr (f := fun k => (sha_Tail.f k (l.length : Int)).bind fun tl => if ((l.drop (l.length / 64 * 64)) ++ tl).length % 64 = 0 ∧ tl.length < 1000 then (sha_Sum.run kk (((l.drop (l.length / 64 * 64)) ++ tl).length / 64) ((l.drop (l.length / 64 * 64)) ++ tl) s1).bind fun s2 => some (s2.list.flatMap sha_Sum.bytes) else none) (fun k => ?_) ?_
    · rw [if_pos (by omega), hs1]; rfl
    · refine Ev.bind (f := fun k tl => if ((l.drop (l.length / 64 * 64)) ++ tl).length % 64 = 0 ∧ tl.length < 1000 then (sha_Sum.run kk (((l.drop (l.length / 64 * 64)) ++ tl).length / 64) ((l.drop (l.length / 64 * 64)) ++ tl) s1).bind fun s2 => some (s2.list.flatMap sha_Sum.bytes) else none) htl ?_
      rw [if_pos hmod, hs2]
      exact Ev.now _
  · unfold notaryref03_Sum.f
    simp only [Option.bind_some, List.nil_append, List.length_nil]
    refine Ev.congr (f := fun k => (notaryref03_Tail.f k (l.length : Int)).bind fun t256 => (if l.length + t256.length < 140737488355328 then ((notaryref03_Rounds.f k).bind fun t262 => ((notaryref03_Start.f k).bind fun t265 => (notaryref03_Sum.l0 k (l ++ t256) t262 t265 0))) else (none))) (fun k => ?_) ?_
    · rw [if_pos (by omega)]
    · refine Ev.bind (f := fun k t256 => (if l.length + t256.length < 140737488355328 then ((notaryref03_Rounds.f k).bind fun t262 => ((notaryref03_Start.f k).bind fun t265 => (notaryref03_Sum.l0 k (l ++ t256) t262 t265 0))) else (none))) hrtl ?_
      refine Ev.congr (f := fun k => (notaryref03_Rounds.f k).bind fun t262 => (notaryref03_Start.f k).bind fun t265 => (notaryref03_Sum.l0 k (l ++ tl) t262 t265 0)) (fun k => if_pos (by omega)) ?_
      refine Ev.bind (f := fun k t262 => (notaryref03_Start.f k).bind fun t265 => (notaryref03_Sum.l0 k (l ++ tl) t262 t265 0)) hrk ?_
      refine Ev.bind (f := fun k t265 => notaryref03_Sum.l0 k (l ++ tl) kk t265 0) hrs ?_
      have := hR _ (sum_l1 y hyw 8 0 rfl)
      rw [list_st s0 hsl] at this
      exact this
theorem bytes_byt (l : List Int) : Byt (l.flatMap sha_Sum.bytes) := by
  intro x hx
  obtain ⟨z, hz, hxz⟩ := List.mem_flatMap.1 hx
  simp only [sha_Sum.bytes, List.mem_cons, List.not_mem_nil, or_false] at hxz
  rcases hxz with rfl | rfl | rfl | rfl <;> omega
theorem sum_same (l : List Int) (hb : Byt l) (hbig : l.length < 500000) : ∃ r, Ev (fun k => sha_Sum.f k l) r ∧ Ev (fun k => notaryref03_Sum.f k l) r ∧ r.length = 32 ∧ Byt r := by
  obtain ⟨_, _, y, _, _, _, _, _, _, h1, h2⟩ := sum_both l hb hbig
  exact ⟨_, h1, h2, by rw [sha_Sum.bytes_length]; rfl, bytes_byt _⟩
end Go.Proofs.Ytnkkgeglnmggpaa.LSha
