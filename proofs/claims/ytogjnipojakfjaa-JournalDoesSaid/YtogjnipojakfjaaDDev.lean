/- The device: what its functions do to its block and its row. -/
import Derived.StillTailTactics
import Derived.IntWalk
import Derived.WalkSpells
import Derived.Outline
import Derived.Test.YtogjnipojakfjaaPJdx3
import Derived.Test.YtogjnipojakfjaaPJdx9
namespace Go.Proofs.Ytogjnipojakfjaa.DDev
open Go.RowKit Go.Proofs.Ytogjnipojakfjaa.PJd Go.Proofs.YtogjnipojakfjaaW.PrintWords Go.Proofs.YtogjnipojakfjaaW.PrintLast Go.Proofs.YtogjnipojakfjaaW.PrintMore
set_option linter.unusedVariables false
set_option linter.unusedSimpArgs false
abbrev TD : Nat := 78
abbrev T8 : Nat := 5
/-- a device: its block g, and its row, the blocks of which are O -/
def Dev (W : World) (B g : Nat) (O : Nat → Prop) (room sure : Int) (bs : List Int) (v : Value) : Prop :=
  W.heap[g]? = some (.cells #[.int .i64 room, .int .i64 sure, v] TD (0, 0)) ∧ B ≤ g ∧ ¬ O g ∧ Kd.R (Kd.int .u8) T8 W B O v bs
def heldN (n hi : Int) : Int := mn (mx n 0) hi
attribute [local go_sem] max2_int min2_int max_two min_two max_three min_three max_four min_four
theorem held_q (n hi : Int) (w : World) : Calls Try.prog 40 #[.int .i64 n, .int .i64 hi] w fun e w' => e = .returned (.int .i64 (heldN n hi)) ∧ w = w' := by
  go_enter Try.func40, Try.ntmps40
  go_wp2
  all_goals
    go_ret
    refine ⟨congrArg (fun z => Ending.returned (.int .i64 z)) ?_, rfl⟩
    unfold heldN mn mx
    repeat' split
    all_goals omega
theorem held_s (n hi : Int) (w : World) : Calls Try.prog 40 #[.int .i64 n, .int .i64 hi] w fun e w' => e = .returned (.int .i64 (heldN n hi)) ∧ w' = w := (held_q n hi w).mono fun e w' ⟨he, hw⟩ => ⟨he, hw.symm⟩
theorem held_any (n hi : Int) (w : World) : Calls Try.prog 40 #[.int .i64 n, .int .i64 hi] w fun e w' => e = .returned (.int .i64 (heldN n hi)) ∧ Below w.heap.size w w' := device_held.calls n hi _ w rfl
theorem New.calls (n : Int) (w : World) :
    Calls Try.prog 11 #[.int .i64 n] w fun e w' => ∃ g, e = .returned (.pointer (some ⟨g, 0, none⟩)) ∧ w.heap.size ≤ g ∧ Below w.heap.size w w' ∧ Dev w' w.heap.size g (fun _ => False) (heldN n 65536) 0 [] (.slice none 0 0) := by
  go_enter Try.func11, Try.ntmps11
  go_wp2_with (go_at_call 40; (with_reducible refine (held_any n 65536 _).mono ?_); rintro e w1 ⟨rfl, hb1⟩; have HB1 := Aside0.mk hb1; clear hb1)
  go_ret
  exact ⟨_, rfl, HB1.out.size, below_alloc HB1.out _, blk_new _ _, HB1.out.size, fun h => h, Kd.R_nil _ _ _ _ _⟩
theorem dev_cells {W : World} {B g : Nat} {O : Nat → Prop} {room sure : Int} {bs : List Int} {v : Value} (h : Dev W B g O room sure bs v) :
    W.cell? ⟨g, 0, none⟩ = some (.int .i64 room) ∧ W.cell? ⟨g, 1, none⟩ = some (.int .i64 sure) ∧ W.cell? ⟨g, 2, none⟩ = some v ∧ W.frozen? ⟨g, 0, none⟩ = false ∧ W.frozen? ⟨g, 1, none⟩ = false ∧ W.frozen? ⟨g, 2, none⟩ = false :=
  ⟨by rw [blk_cell h.1]; rfl, by rw [blk_cell h.1]; rfl, by rw [blk_cell h.1]; rfl, blk_frozen h.1 0, blk_frozen h.1 1, blk_frozen h.1 2⟩
theorem dev_lt {W : World} {B g : Nat} {O : Nat → Prop} {room sure : Int} {bs : List Int} {v : Value} (h : Dev W B g O room sure bs v) : g < W.heap.size := blk_lt h.1
theorem dev_drewN {W : World} {B g : Nat} {O : Nat → Prop} {room sure : Int} {bs : List Int} {v : Value} (h : Dev W B g O room sure bs v) (n : Nat) : Dev (W.drewN n) B g O room sure bs v :=
  ⟨blk_drewN h.1 n, h.2.1, h.2.2.1, Kd.R_drewN h.2.2.2 n⟩
theorem dev_below {W W1 : World} {B g : Nat} {O : Nat → Prop} {room sure : Int} {bs : List Int} {v : Value} (h : Dev W B g O room sure bs v) (hb : Below W.heap.size W W1) : Dev W1 B g O room sure bs v :=
  ⟨blk_below h.1 hb, h.2.1, h.2.2.1, Kd.R_below h.2.2.2 hb⟩
theorem dev_kept {W W1 : World} {S : Nat → Prop} {B g : Nat} {O : Nat → Prop} {room sure : Int} {bs : List Int} {v : Value} (h : Dev W B g O room sure bs v) (hk : Kept W W1 S) (hg : ¬ S g) (hO : ∀ k, O k → ¬ S k) : Dev W1 B g O room sure bs v :=
  ⟨blk_kept h.1 hk hg, h.2.1, h.2.2.1, Kd.R_kept h.2.2.2 hk hO⟩
theorem dev_mono {W : World} {B g : Nat} {O O' : Nat → Prop} {room sure : Int} {bs : List Int} {v : Value} (h : Dev W B g O room sure bs v) (hO : ∀ k, O k → O' k) (hg : ¬ O' g) : Dev W B g O' room sure bs v :=
  ⟨h.1, h.2.1, hg, Kd.R_mono h.2.2.2 hO⟩
theorem dev_sure {W : World} {B g : Nat} {O : Nat → Prop} {room sure : Int} {bs : List Int} {v : Value} (h : Dev W B g O room sure bs v) (s : Int) : Dev (W.setCell ⟨g, 1, none⟩ (.int .i64 s)) B g O room s bs v :=
  ⟨blk_put h.1 1 _ rfl, h.2.1, h.2.2.1, Kd.R_far (p := ⟨g, 1, none⟩) h.2.2.2 (fun k hk e => h.2.2.1 (by rw [← show k = g from e]; exact hk)) _⟩
theorem Sync.calls (g : Nat) (B : Nat) (O : Nat → Prop) (room sure : Int) (bs : List Int) (v : Value) (w0 w : World) (h : Dev w B g O room sure bs v) :
    Calls Try.prog 47 #[.pointer (some ⟨g, 0, none⟩)] w fun e w' => e = .returned (.tuple #[]) ∧ w' = w.setCell ⟨g, 1, none⟩ (.int .i64 (bs.length : Int)) := by
  obtain ⟨hb, hg, hn, ho⟩ := h
  obtain ⟨A, c, rfl, hc, hr⟩ := Kd.R_reads ho
  have c2 : w.cell? ⟨g, 2, none⟩ = some (.slice A bs.length c) := by rw [blk_cell hb]; rfl
  have c1 : w.cell? ⟨g, 1, none⟩ = some (.int .i64 sure) := by rw [blk_cell hb]; rfl
  have f1 : w.frozen? ⟨g, 1, none⟩ = false := blk_frozen hb 1
  clear ho hr hc hn
  go_enter Try.func47, Try.ntmps47
  go_wp2
  go_end0
  exact ⟨rfl, rfl⟩
theorem dev_grown {W W1 : World} {B g : Nat} {O : Nat → Prop} {room sure : Int} {bs : List Int} {v : Value} (h : Dev W B g O room sure bs v) (hg : W.grownBy W1 v.ownBlock) : W1.heap[g]? = some (.cells #[.int .i64 room, .int .i64 sure, v] TD (0, 0)) :=
  blk_grown h.1 hg (fun e => h.2.2.1 (h.2.2.2.1 g e.symm))
set_option maxHeartbeats 4000000 in
set_option maxRecDepth 100000 in
theorem Append.no (g B : Nat) (O : Nat → Prop) (room sure : Int) (bs : List Int) (v : Value) (A : Option Addr) (c : Nat) (ys : List Int) (w : World) (h : Dev w B g O room sure bs v) (hr : room ≤ 65536) (hb : bs.length ≤ 65536) (h0 : 0 ≤ room) (hys : ys.length ≤ 140737488351232) (hno : room - bs.length < ys.length) :
    Calls Try.prog 17 #[.pointer (some ⟨g, 0, none⟩), .slice A ys.length c] w fun e w' => e = .returned (.int .i64 28) ∧ Drawn0 w w' := by
  obtain ⟨c0, c1, c2, f0, f1, f2⟩ := dev_cells h
  obtain ⟨A0, cp, rfl, _⟩ := Kd.R_slice h.2.2.2 |>.imp fun A h => h.imp fun c h => (⟨h, trivial⟩ : _ ∧ True)
  clear h
  have e1 : IntKind.i64.wrap (room - (bs.length : Int)) = room - (bs.length : Int) := IntWalk.i64_in _ (by omega)
  have hd : decide (room - (bs.length : Int) < (ys.length : Int)) = true := decide_eq_true hno
  go_enter Try.func17, Try.ntmps17
  go_wp2
  go_quiet (fail)
  try go_wp2
  go_ret
  exact ⟨rfl, by repeat (first | exact Drawn0.refl _ | apply Drawn0.step)⟩
set_option maxHeartbeats 4000000 in
set_option maxRecDepth 100000 in
theorem Append.yes (g : Nat) (O : Nat → Prop) (room sure : Int) (bs : List Int) (v : Value) (A : Option Addr) (c : Nat) (ys : List Int) (w0 w : World) (h : Dev w w0.heap.size g O room sure bs v) (HB : Below w0.heap.size w0 w) (hR : Kd.C (Kd.int .u8) w A ys.length ys) (hr : room ≤ 65536) (hb : bs.length ≤ 65536) (h0 : 0 ≤ room) (hyes : ¬ room - bs.length < ys.length) :
    Calls Try.prog 17 #[.pointer (some ⟨g, 0, none⟩), .slice A ys.length c] w fun e w' => e = .returned (.int .i64 0) ∧ ∃ v', Dev w' w0.heap.size g (fun k => O k ∨ w.heap.size ≤ k) room sure (bs ++ ys) v' ∧ Kept w w' (fun k => k = g ∨ O k) ∧ Below w0.heap.size w0 w' := by
  obtain ⟨c0, c1, c2, f0, f1, f2⟩ := dev_cells h
  have HD := Aside0.mk h
  have HB0 := Aside0.mk HB
  have HR := Aside0.mk hR
  obtain ⟨A0, cp, rfl⟩ := Kd.R_slice h.2.2.2
  have HO : Aside0 (Kd.R (Kd.int .u8) T8 w w0.heap.size (fun k => O k ∨ w.heap.size ≤ k) (.slice A0 bs.length cp) bs) := ⟨Kd.R_mono h.2.2.2 (fun _ hk => .inl hk)⟩
  have HOB : Aside0 (∀ k, (Value.slice A0 bs.length cp).ownBlock = some k → O k) := ⟨h.2.2.2.1⟩
  have HL : Aside0 ((bs.length + ys.length) * 1 ≤ 140737488355328) := ⟨by omega⟩
  have e1 : IntKind.i64.wrap (room - (bs.length : Int)) = room - (bs.length : Int) := IntWalk.i64_in _ (by omega)
  have hd : decide (room - (bs.length : Int) < (ys.length : Int)) = false := decide_eq_false hyes
  clear h HB hR hr hb h0 hyes
  go_enter Try.func17, Try.ntmps17
  go_wp2
  go_quiet (fail)
  go_wp2_with ((with_reducible refine gate_builtin (b := .append) (xs := #[.tmp 28, .tmp 29]) rfl ?_); at_builtin; refine Kd.R_append_rows (Kd.int .u8) (w0 := w0) w0.heap.size rfl (.tmp 28) (.tmp 29) 22 T8 (.int .u8 0) 1 rfl Try.underlying22 info5 rfl (by decide) (by omega) (.slice A0 bs.length cp) bs ys _ _ _ (fun k => O k ∨ w.heap.size ≤ k) (fun _ => False) rfl rfl (Kd.R_drewN HO.out _) (Kd.C_drewN HR.out _) (fun _ _ h => h) (fun _ h => h.elim) (fun _ hk => .inr hk) (pw_below_drewN HB0.out _) HB0.out.size HL.out ?_; intro v1 w1 ho1 hb1 hg1 hat1; obtain ⟨A1, cp1, rfl⟩ := Kd.R_slice ho1; rw [List.length_append] at ho1; have hk1 := dev_grown (dev_drewN HD.out _) hg1; have HK1 := Aside0.mk hk1; have g2 : w1.cell? ⟨g, 2, none⟩ = some (.slice A0 bs.length cp) := (by rw [blk_cell hk1]; rfl); have g3 : w1.frozen? ⟨g, 2, none⟩ = false := blk_frozen hk1 2; clear hk1; have HO1 := Aside0.mk ho1; have HB1 := Aside0.mk hb1; have HG1 := Aside0.mk hg1; clear ho1 hb1 hg1 hat1)
  go_ret
  have hlt := dev_lt HD.out
  have hng := HD.out.2.2.1
  refine ⟨rfl, _, ⟨blk_put HK1.out 2 _ rfl, HD.out.2.1, fun hh => hh.elim hng (fun hh => by omega), Kd.R_far (p := ⟨g, 2, none⟩) HO1.out (fun k hk e => ?_) _⟩, ?_, below_set HB1.out HD.out.2.1⟩
  · have e' : k = g := e
    subst e'
    exact hk.elim hng (fun hh => by omega)
  · exact Kept.setCell (Kept.of_grown HG1.out (Kept.drewN (Kept.refl _ _) _) (fun k hk => .inl (.inr (HOB.out k hk)))) (.inl (.inl rfl)) _
set_option maxHeartbeats 4000000 in
set_option maxRecDepth 100000 in
theorem Bytes.calls (g B : Nat) (O : Nat → Prop) (room sure : Int) (bs : List Int) (v : Value) (w : World) (h : Dev w B g O room sure bs v) (hb : bs.length ≤ 65536) :
    Calls Try.prog 34 #[.pointer (some ⟨g, 0, none⟩)] w fun e w' => ∃ v0_ : Value, e = .returned v0_ ∧ Kd.R (Kd.int .u8) T8 w' w.heap.size (fun _ => True) v0_ bs ∧ Below w.heap.size w w' := by
  obtain ⟨c0, c1, c2, f0, f1, f2⟩ := dev_cells h
  obtain ⟨A0, cp, rfl, hcp, hr⟩ := Kd.R_reads h.2.2.2
  have HR := Aside0.mk hr
  have HC := Aside0.mk hcp
  have HF : Aside0 (slices_Clone_byte_byte.f bs = some bs) := ⟨by unfold slices_Clone_byte_byte.f; rw [if_pos (by omega)]⟩
  clear h hb hr hcp
  go_enter Try.func34, Try.ntmps34
  go_wp2_with (go_at_call 33; (with_reducible refine (slices_Clone_byte_byte.calls A0 cp bs bs _ HR.out HC.out HF.out).mono ?_); rintro e w1 ⟨v1, rfl, ho1, hb1⟩; have HO1 := Aside0.mk ho1; have HB1 := Aside0.mk hb1; clear ho1 hb1)
  go_ret
  exact ⟨_, rfl, HO1.out, HB1.out⟩
theorem dev_cut {W : World} {B g : Nat} {O : Nat → Prop} {room sure : Int} {bs : List Int} {A : Option Addr} {cp m : Nat} (h : Dev W B g O room sure bs (.slice A bs.length cp)) (hm : m ≤ bs.length) : Dev (W.setCell ⟨g, 2, none⟩ (.slice A m cp)).drew B g O room sure (bs.take m) (.slice A m cp) :=
  ⟨blk_drew (blk_put h.1 2 _ rfl), h.2.1, h.2.2.1, Kd.R_drew (Kd.R_take (Kd.R_far (p := ⟨g, 2, none⟩) h.2.2.2 (fun k hk e => h.2.2.1 (by rw [← show k = g from e]; exact hk)) _) hm)⟩
set_option maxHeartbeats 8000000 in
set_option maxRecDepth 100000 in
theorem Cut.calls (g : Nat) (O : Nat → Prop) (room sure : Int) (bs : List Int) (v : Value) (n : Int) (w0 w : World) (h : Dev w w0.heap.size g O room sure bs v) (HB : Below w0.heap.size w0 w) (hb : bs.length ≤ 65536) :
    Calls Try.prog 39 #[.pointer (some ⟨g, 0, none⟩), .int .i64 n] w fun e w' => e = .returned (.tuple #[]) ∧ ∃ v', Dev w' w0.heap.size g O room (mn sure ((bs.take (heldN n bs.length).toNat).length : Int)) (bs.take (heldN n bs.length).toNat) v' ∧ v'.ownBlock = v.ownBlock ∧ Kept w w' (fun k => k = g) ∧ Below w0.heap.size w0 w' := by
  obtain ⟨c0, c1, c2, f0, f1, f2⟩ := dev_cells h
  have HD := Aside0.mk h
  have HB0 := Aside0.mk HB
  obtain ⟨A0, cp, rfl, hcp, _⟩ := Kd.R_reads h.2.2.2
  obtain ⟨m, hm, hm2⟩ : ∃ m : Nat, heldN n bs.length = (m : Int) ∧ m ≤ bs.length := by
    refine ⟨(heldN n bs.length).toNat, ?_, ?_⟩ <;> (unfold heldN mn mx; split <;> split <;> omega)
  have HM := Aside0.mk hm
  have HM2 := Aside0.mk hm2
  clear h HB
  have hmn : ((m : Nat) : Int) ≤ (bs.length : Int) := by omega
  obtain ⟨i0, hi0, _⟩ := info_parts info5
  have hcut : ∀ W : World, (Instr.slice 22 (.slice A0 bs.length cp) none (some (.int .i64 (m : Int))) none).run Try.prog W = .ok (.slice A0 m cp) W := fun W => by
    have := cut_to (P := Try.prog) 22 T8 .i64 Try.underlying22 hi0 A0 bs.length cp (m : Int) (by omega) (by omega) hcp W
    simpa using this
  clear hi0 hcp
  go_enter Try.func39, Try.ntmps39
  go_wp2
  refine wp_region_still_tail 15 (by kernel_rfl) (by kernel_rfl) ?_
  simp only [List.take_succ_cons, List.take_zero, List.drop_succ_cons, List.drop_zero]
  repeat still_step
  still_call (held_s n bs.length w.drew)
  simp only [hm]
  repeat still_step
  refine wpStill_nil ?_
  change wpList _ _ _ _ _ w.drew
  go_wp2
  obtain ⟨W1, hW1⟩ : ∃ W1, W1 = (w.setCell ⟨g, 2, none⟩ (.slice A0 m cp)).drew := ⟨_, rfl⟩
  have HD1 : Aside0 (Dev W1 w0.heap.size g O room sure (bs.take m) (.slice A0 m cp)) := ⟨by rw [hW1]; exact dev_cut HD.out HM2.out⟩
  have HB1 : Aside0 (Below w0.heap.size w0 W1) := ⟨by rw [hW1]; exact below_drew (below_set HB0.out HD.out.2.1)⟩
  have HK1 : Aside0 (Kept w W1 (fun k => k = g)) := ⟨by rw [hW1]; exact Kept.drew (Kept.setCell (S := fun k => k = g) (Kept.refl _ _) (.inl rfl) _)⟩
  rw [← hW1]
  obtain ⟨d0, d1, d2, e0, e1, e2⟩ := dev_cells HD1.out
  clear hW1 c0 c1 c2 f0 f1 f2 hcut
  obtain ⟨z, hz⟩ : ∃ z : Int, z = mn sure (m : Int) := ⟨_, rfl⟩
  have hif : (if (m : Int) < sure then (m : Int) else sure) = z := by rw [hz]; rfl
  have HZ := Aside0.mk hz
  clear hz
  refine wp_region_still_tail 15 (by kernel_rfl) (by kernel_rfl) ?_
  simp only [List.take_succ_cons, List.take_zero, List.drop_succ_cons, List.drop_zero]
  repeat still_step
  refine wpStill_nil ?_
  change wpList _ _ _ _ _ W1.drew
  go_wp2
  go_end0
  have hml : (bs.take m).length = m := by rw [List.length_take]; omega
  refine ⟨rfl, .slice A0 m cp, ?_⟩
  rw [HM.out, Int.toNat_natCast, hml, ← HZ.out]
  exact ⟨dev_drewN (dev_sure HD1.out _) 1, by cases A0 <;> rfl, Kept.drew (Kept.setCell HK1.out (.inl rfl) _), below_drew (below_set HB1.out HD.out.2.1)⟩
set_option maxHeartbeats 8000000 in
set_option maxRecDepth 100000 in
theorem Crash.calls (g : Nat) (O : Nat → Prop) (room sure : Int) (bs : List Int) (v : Value) (n : Int) (w0 w : World) (h : Dev w w0.heap.size g O room sure bs v) (HB : Below w0.heap.size w0 w) (hb : bs.length ≤ 65536) (hs : 0 ≤ sure) (hs2 : sure ≤ bs.length) :
    Calls Try.prog 30 #[.pointer (some ⟨g, 0, none⟩), .int .i64 n] w fun e w' => e = .returned (.tuple #[]) ∧ ∃ v', Dev w' w0.heap.size g O room ((bs.take (sure + heldN n (bs.length - sure)).toNat).length : Int) (bs.take (sure + heldN n (bs.length - sure)).toNat) v' ∧ v'.ownBlock = v.ownBlock ∧ Kept w w' (fun k => k = g) ∧ Below w0.heap.size w0 w' := by
  obtain ⟨c0, c1, c2, f0, f1, f2⟩ := dev_cells h
  have HD := Aside0.mk h
  have HB0 := Aside0.mk HB
  obtain ⟨A0, cp, rfl⟩ := Kd.R_slice h.2.2.2
  have w1 : IntKind.i64.wrap ((bs.length : Int) - sure) = (bs.length : Int) - sure := IntWalk.i64_in _ (by omega)
  obtain ⟨q, hq, hq0, hq1⟩ : ∃ q : Int, heldN n (bs.length - sure) = q ∧ 0 ≤ q ∧ q ≤ bs.length - sure := ⟨_, rfl, by unfold heldN mn mx; split <;> split <;> omega, by unfold heldN mn mx; split <;> split <;> omega⟩
  have w2 : IntKind.i64.wrap (sure + q) = sure + q := IntWalk.i64_in _ (by omega)
  have HQ := Aside0.mk hq
  have HL := Aside0.mk hb
  have HS := Aside0.mk (And.intro hs hs2)
  have HQ2 := Aside0.mk (And.intro hq0 hq1)
  clear h HB
  go_enter Try.func30, Try.ntmps30
  go_wp2
  refine wp_region_still_tail 20 (by kernel_rfl) (by kernel_rfl) ?_
  simp only [List.take_succ_cons, List.take_zero, List.drop_succ_cons, List.drop_zero]
  repeat still_step
  still_call (held_s n (bs.length - sure) w.drew)
  simp only [hq]
  repeat still_step
  refine wpStill_nil ?_
  change wpList _ _ _ _ _ w.drew
  have hb' : (bs.take (heldN (sure + q) bs.length).toNat).length ≤ 65536 := by rw [List.length_take]; have := HL.out; omega
  clear c0 c1 c2 f0 f1 f2 w1 w2 hq hq0 hq1 hb hs hs2
  obtain ⟨bt, hbt⟩ : ∃ bt, bt = bs.take (heldN (sure + q) bs.length).toNat := ⟨_, rfl⟩
  have HBT := Aside0.mk hbt
  have HC := Aside0.mk (Cut.calls g O room sure bs (.slice A0 bs.length cp) (sure + q) w0 w.drew (dev_drewN HD.out 1) (below_drew HB0.out) HL.out)
  rw [← hbt] at HC hb'
  clear hbt
  go_wp2_with (first | (go_at_call 39; (with_reducible refine HC.out.mono ?_); rintro e w1 ⟨rfl, v1, hd1, ho1, hk1, hb1⟩; (have HD1 := Aside0.mk hd1); (have HO1 := Aside0.mk ho1); (have HK1 := Aside0.mk hk1); (have HB1 := Aside0.mk hb1); clear hd1 ho1 hk1 hb1) | (go_at_call 47; (with_reducible refine (Sync.calls g w0.heap.size O room _ bt v1 w0 _ HD1.out).mono ?_); rintro e w2 ⟨rfl, rfl⟩))
  go_end0
  have he : bs.take (sure + heldN n (bs.length - sure)).toNat = bt := by
    rw [HBT.out, HQ.out]
    have h1 := HS.out
    have h2 := HQ2.out
    congr 2
    unfold heldN mn mx
    split <;> split <;> omega
  rw [he]
  exact ⟨rfl, v1, dev_sure HD1.out _, HO1.out, Kept.setCell (Kept.then_ (Kept.drew (Kept.refl w _)) HK1.out (fun _ h => .inl h)) (.inl rfl) _, below_set HB1.out HD.out.2.1⟩
end Go.Proofs.Ytogjnipojakfjaa.DDev
