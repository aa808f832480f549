/- The law ShaGoesOn, over numbers alone. -/
import Derived.Test.YtpebbjhllfcnbaaLSha3
import Derived.Test.YtpebbjhllfcnbaaPAllx9
namespace Go.Proofs.Ytpebbjhllfcnbaa.Pure
open Go.RowKit Go.Proofs.Ytpebbjhllfcnbaa.LSha Go.Proofs.Ytpebbjhllfcnbaa.PAll Go.Proofs.YtpebbjhllfcnbaaW.PrintWords Go.Proofs.YtpebbjhllfcnbaaW.PrintLast Go.Proofs.YtpebbjhllfcnbaaW.PrintMore
set_option linter.unusedVariables false
theorem rd_flat (y : sha_behind.St) (i : Nat) (hi : i < 8) : rd (y.list.flatMap sha_Sum.bytes) (4 * (i : Int)) = rd y.list (i : Int) / 16777216 % 256 ∧ rd (y.list.flatMap sha_Sum.bytes) (4 * (i : Int) + 1) = rd y.list (i : Int) / 65536 % 256 ∧
    rd (y.list.flatMap sha_Sum.bytes) (4 * (i : Int) + 2) = rd y.list (i : Int) / 256 % 256 ∧ rd (y.list.flatMap sha_Sum.bytes) (4 * (i : Int) + 3) = rd y.list (i : Int) % 256 := by
  match i, hi with
  | 0, _ => exact ⟨rfl, rfl, rfl, rfl⟩
  | 1, _ => exact ⟨rfl, rfl, rfl, rfl⟩
  | 2, _ => exact ⟨rfl, rfl, rfl, rfl⟩
  | 3, _ => exact ⟨rfl, rfl, rfl, rfl⟩
  | 4, _ => exact ⟨rfl, rfl, rfl, rfl⟩
  | 5, _ => exact ⟨rfl, rfl, rfl, rfl⟩
  | 6, _ => exact ⟨rfl, rfl, rfl, rfl⟩
  | 7, _ => exact ⟨rfl, rfl, rfl, rfl⟩
theorem goes_l1 (y : sha_behind.St) (hw : W32 y.list) : ∀ (n i : Nat), n + i = 8 → Ev (fun k => notarylaw03_ShaGoesOn.l1 k y.list (y.list.flatMap sha_Sum.bytes) (i : Int)) true := by
  intro n
  induction n with
  | zero =>
    intro i hi
    refine Ev.step (f := fun _ => some true) (fun k => ?_) (Ev.now _)
    simp only [notarylaw03_ShaGoesOn.l1]
    rw [if_neg (by omega)]
  | succ n ih =>
    intro i hi
    have e1 : wrap64 ((i : Int) + 1) = ((i + 1 : Nat) : Int) := by rw [w64 _ (by omega) (by omega)]; omega
    have hl : y.list.length = 8 := rfl
    have hRl : (y.list.flatMap sha_Sum.bytes).length = 32 := by rw [sha_Sum.bytes_length]; rfl
    have hz := rd_at y.list i (by omega)
    have hzw := hw (y.list[i]'(by omega)) (List.getElem_mem _)
    rw [← hz] at hzw
    obtain ⟨r0, r1, r2, r3⟩ := rd_flat y i (by omega)
    refine Ev.step (f := fun k => notarylaw03_ShaGoesOn.l1 k y.list (y.list.flatMap sha_Sum.bytes) ((i + 1 : Nat) : Int)) (fun k => ?_) (ih (i + 1) (by omega))
    have e4 : wrap64 (4 * (i : Int)) = 4 * (i : Int) := w64 _ (by omega) (by omega)
    have e41 : wrap64 (4 * (i : Int) + 1) = 4 * (i : Int) + 1 := w64 _ (by omega) (by omega)
    have e42 : wrap64 (4 * (i : Int) + 2) = 4 * (i : Int) + 2 := w64 _ (by omega) (by omega)
    have e43 : wrap64 (4 * (i : Int) + 3) = 4 * (i : Int) + 3 := w64 _ (by omega) (by omega)
    simp only [notarylaw03_ShaGoesOn.l1]
    rw [e4, e41, e42, e43, e1, r0, r1, r2, r3]
    generalize y.list.flatMap sha_Sum.bytes = R at *
    clear r0 r1 r2 r3 hz
    generalize rd y.list (i : Int) = z at *
    rw [if_pos (by omega), if_pos (by omega), if_pos (by omega), if_pos (by omega), if_pos (by omega), if_pos (by omega), if_pos (by omega), if_pos (by omega), if_pos (by omega), if_pos (by omega), if_pos (by omega), if_pos (by omega)]
theorem goes_l0 (l all kk : List Int) (hkk : sha_rounds.f = some kk) (hk : kk.length = 64) (hb : Byt all) (hbig : all.length < 1000000) (y : sha_behind.St) (hyw : W32 y.list) (hsum : Ev (fun k => sha_Sum.f k l) (y.list.flatMap sha_Sum.bytes)) :
    ∀ (n i : Nat) (s : sha_behind.St), all.length = 64 * (n + i) → sha_Sum.run kk n (all.drop (64 * i)) s = some y → Ev (fun k => notarylaw03_ShaGoesOn.l0 k l all s.list (64 * (i : Int))) true := by
  intro n
  induction n with
  | zero =>
    intro i s hi hrun
    obtain rfl : s = y := Option.some.inj hrun
    have hRl : (s.list.flatMap sha_Sum.bytes).length = 32 := by rw [sha_Sum.bytes_length]; rfl
    have hsl : s.list.length = 8 := rfl
    refine Ev.step (f := fun k => (sha_Sum.f k l).bind fun t342 => (if (t342.length : Int) = 32 then (notarylaw03_ShaGoesOn.l1 k s.list t342 0) else (some false))) (fun k => ?_) ?_
    · simp only [notarylaw03_ShaGoesOn.l0]
      rw [if_neg (by omega), if_pos (by omega)]
    · refine Ev.bind (f := fun k t342 => (if (t342.length : Int) = 32 then (notarylaw03_ShaGoesOn.l1 k s.list t342 0) else (some false))) hsum ?_
      refine Ev.congr (f := fun k => notarylaw03_ShaGoesOn.l1 k s.list (s.list.flatMap sha_Sum.bytes) ((0 : Nat) : Int)) (fun k => if_pos (by omega)) ?_
      exact goes_l1 s hyw 8 0 rfl
  | succ n ih =>
    intro i s hi hrun
    obtain ⟨t, ht, _, htw, hr⟩ := run_succ kk (all.drop (64 * i)) s hk (fun x hx => hb x (List.mem_of_mem_drop hx)) (by rw [List.length_drop]; omega)
    rw [hr, List.drop_drop] at hrun
    have hsl : s.list.length = 8 := rfl
    have htl : ((all.drop (64 * i)).take 64).length = 64 := by rw [List.length_take, List.length_drop]; omega
    refine Ev.step (f := fun k => notarylaw03_ShaGoesOn.l0 k l all t.list (64 * ((i + 1 : Nat) : Int))) (fun k => ?_) (ih (i + 1) t (by omega) hrun)
    simp only [notarylaw03_ShaGoesOn.l0]
    rw [take_drop' all i (by omega), w64 _ (by omega) (by omega), if_pos (by omega), if_pos (by omega), if_pos (by omega), if_pos (by omega)]
    have hB : sha_Block.f s.list ((all.drop (64 * i)).take 64) = some t.list := by
      unfold sha_Block.f
      rw [if_pos ⟨hsl, htl⟩, hkk, Option.bind_some, st_self, ht]
    rw [hB, Option.bind_some, show (64 * (i : Int) + 64) = 64 * ((i + 1 : Nat) : Int) by omega]
theorem ShaGoesOn : notarylaw03_ShaGoesOn.Pure := by
  intro l hl hl2 hw
  have hb : Byt l := Ytpebbjhllfcnbaa.LSame.byt_u8 hw
  refine Ev.rounds (g := fun k => notarylaw03_ShaGoesOn.f k l) ?_
  unfold notarylaw03_ShaGoesOn.f
  by_cases hbig : (l.length : Int) > 200
  · refine Ev.congr (f := fun k => (sha_Tail.f k 0).bind fun t317 => (some ((t317.length : Int) == 64))) (fun k => if_pos hbig) ?_
    refine Ev.bind (f := fun k (t317 : List Int) => (some ((t317.length : Int) == 64))) (Ytpebbjhllfcnbaa.LTail.tail_ev 0 (by decide) (by decide)) ?_
    have : ((Ytpebbjhllfcnbaa.LTail.tail 0).length : Int) == 64 := by rw [Ytpebbjhllfcnbaa.LTail.tail_length]; decide
    rw [this]
    exact Ev.now _
  · obtain ⟨kk, s0, y, hkk, hs0, hkl, hsl, hrun, hyw, hsum, _⟩ := sum_both l hb (by omega)
    have htl := Ytpebbjhllfcnbaa.LTail.tail_ev (l.length : Int) (by omega) (by omega)
    have htb : Byt (Ytpebbjhllfcnbaa.LTail.tail (l.length : Int)) := Ytpebbjhllfcnbaa.LTail.tail_byt _
    have hgl := Ytpebbjhllfcnbaa.LTail.gap_lt (l.length : Int)
    have hga := Ytpebbjhllfcnbaa.LTail.gap_all (l.length : Int)
    have hln := Ytpebbjhllfcnbaa.LTail.tail_length (l.length : Int)
    generalize Ytpebbjhllfcnbaa.LTail.tail (l.length : Int) = tl at *
    generalize Ytpebbjhllfcnbaa.LTail.gap (l.length : Int) = gp at *
    have hl2 : (l ++ tl).length = l.length + tl.length := List.length_append
    have hall : Byt (l ++ tl) := fun x hx => (List.mem_append.1 hx).elim (hb x) (htb x)
    refine Ev.congr (f := fun k => (sha_Tail.f k (l.length : Int)).bind fun tl => if l.length < 140737488355328 then (if l.length + tl.length < 140737488355328 then (if (((l ++ tl).length : Int) % 64) = 0 then (if (tl.length : Int) < 9 then (notarylaw03_ShaGoesOn.j0 k l (l ++ tl) true) else (notarylaw03_ShaGoesOn.j0 k l (l ++ tl) (decide ((tl.length : Int) > 72)))) else (notarylaw03_ShaGoesOn.j0 k l (l ++ tl) true)) else none) else none) (fun k => ?_) ?_
    · rw [if_neg hbig]
      simp only [Option.bind_some, List.nil_append, List.length_nil, Nat.zero_add]
    · refine Ev.bind (f := fun k tl => if l.length < 140737488355328 then (if l.length + tl.length < 140737488355328 then (if (((l ++ tl).length : Int) % 64) = 0 then (if (tl.length : Int) < 9 then (notarylaw03_ShaGoesOn.j0 k l (l ++ tl) true) else (notarylaw03_ShaGoesOn.j0 k l (l ++ tl) (decide ((tl.length : Int) > 72)))) else (notarylaw03_ShaGoesOn.j0 k l (l ++ tl) true)) else none) else none) htl ?_
      refine Ev.congr (f := fun k => notarylaw03_ShaGoesOn.j0 k l (l ++ tl) false) (fun k => ?_) ?_
      · rw [if_pos (by omega), if_pos (by omega), if_pos (by omega), if_neg (by omega), decide_eq_false (by omega)]
      · refine Ev.step (f := fun k => notarylaw03_ShaGoesOn.l0 k l (l ++ tl) (sha_Block.st s0).list (64 * ((0 : Nat) : Int))) (fun k => ?_) ?_
        · simp only [notarylaw03_ShaGoesOn.j0, sha_Start.f, hs0, Option.bind_some]
          rw [if_neg (by simp), list_st s0 hsl]; rfl
        · exact goes_l0 l (l ++ tl) kk hkk hkl hall (by omega) y hyw hsum ((l ++ tl).length / 64) 0 _ (by omega) (by rw [Nat.mul_zero, List.drop_zero]; exact hrun)
end Go.Proofs.Ytpebbjhllfcnbaa.Pure
