/- The reference of the journal: its device, its Append, its Do; their walks, by contents. -/
import Derived.Test.YtogjnipojakfjaaJROpen
import Derived.Test.YtogjnipojakfjaaPJdx3
import Derived.Test.YtogjnipojakfjaaPJdx4
import Derived.Test.YtogjnipojakfjaaPJdx8
import Derived.Test.YtogjnipojakfjaaPJdx9
import Derived.Test.YtogjnipojakfjaaPJdx10
import Derived.Test.YtogjnipojakfjaaPJdx11
import Derived.Test.YtogjnipojakfjaaPJdx12
import Derived.Test.YtogjnipojakfjaaLEnt3
/- The reference of the journal: its device, its Append, its Do; their walks, by contents. -/
namespace Go.Proofs.Ytogjnipojakfjaa.JJour
open Go.RowKit Go.Proofs.Ytogjnipojakfjaa.PJd Go.Proofs.YtogjnipojakfjaaW.PrintWords Go.Proofs.YtogjnipojakfjaaW.PrintLast Go.Proofs.YtogjnipojakfjaaW.PrintMore
open LSame (Byt)
open LChain (msgS tagS zeroT)
open DDev (Dev dev_below dev_kept dev_drewN dev_mono T8 TD heldN)
set_option linter.unusedVariables false
set_option linter.unusedSimpArgs false
def appB (room : Int) (bs ys : List Int) : Int × List Int := if room - bs.length < ys.length then (28, bs) else (0, bs ++ ys)
set_option maxHeartbeats 8000000 in
set_option maxRecDepth 100000 in
theorem rapp48 (room sure : Int) (bs ys : List Int) (AB A : Option Addr) (cb c : Nat) (P : Nat → Prop) (W : World) (hcb : bs.length ≤ cb) (hB : Kd.F (Kd.int .u8) W P AB bs.length bs) (hc : ys.length ≤ c) (hY : Kd.C (Kd.int .u8) W A ys.length ys) (hl : bs.length ≤ 65536) (hyl : ys.length ≤ 1000000) :
    Calls Try.prog 18 #[.agg #[.int .i64 room, .int .i64 sure, .slice AB bs.length cb], .slice A ys.length c] W fun x w' => ∃ A' c', x = .returned (.tuple #[.agg #[.int .i64 room, .int .i64 sure, .slice A' (appB room bs ys).2.length c'], .int .i64 (appB room bs ys).1]) ∧ (appB room bs ys).2.length ≤ c' ∧ Kd.F (Kd.int .u8) w' (fun q => P q ∨ W.heap.size ≤ q) A' (appB room bs ys).2.length (appB room bs ys).2 ∧ Below W.heap.size W w' := by
  obtain ⟨W2, hW2⟩ : ∃ W2 : World, W2 = (W.alloc (.cells #[.int .i64 room, .int .i64 sure, .slice AB bs.length cb] TRD)).alloc (.cells #[.int .i64 0, .int .i64 0, .slice none 0 0] TRD) := ⟨_, rfl⟩
  have hb2 : Below W.heap.size W W2 := by rw [hW2]; exact below_alloc (below_alloc (Below.refl _ _) _) _
  have hs2 : W2.heap.size = W.heap.size + 2 := by rw [hW2]; simp
  have k1 : W2.heap[W.heap.size]? = some (.cells #[.int .i64 room, .int .i64 sure, .slice AB bs.length cb] TRD (0, 0)) := by rw [hW2]; exact blk_alloc (blk_new _ _) _
  have k2 : W2.heap[W.heap.size + 1]? = some (.cells #[.int .i64 0, .int .i64 0, .slice none 0 0] TRD (0, 0)) := by
    rw [hW2]
    have := blk_new (W.alloc (.cells #[.int .i64 room, .int .i64 sure, .slice AB bs.length cb] TRD)) (.cells #[.int .i64 0, .int .i64 0, .slice none 0 0] TRD)
    simpa using this
  have HB2 := Aside0.mk hb2
  have HC := Aside0.mk (And.intro hcb (And.intro hc hl))
  have HYL := Aside0.mk hyl
  have HBF := Aside0.mk hB
  have HY := Aside0.mk hY
  have HS2 := Aside0.mk hs2
  have hw : IntKind.i64.wrap ((bs.length : Int) + (ys.length : Int)) = (bs.length : Int) + (ys.length : Int) := IntWalk.i64_in _ (by omega)
  have x0 : W2.cell? ⟨W.heap.size, 0, none⟩ = some (.int .i64 room) := (blk_cell k1 0).trans rfl
  have x1 : W2.cell? ⟨W.heap.size, 1, none⟩ = some (.int .i64 sure) := (blk_cell k1 1).trans rfl
  have x2 : W2.cell? ⟨W.heap.size, 2, none⟩ = some (.slice AB bs.length cb) := (blk_cell k1 2).trans rfl
  by_cases hno : room - bs.length < ys.length
  · have hr : appB room bs ys = (28, bs) := if_pos hno
    have HR := Aside0.mk hr
    have d1 : decide ((bs.length : Int) + (ys.length : Int) > room) = true := decide_eq_true (by omega)
    have d2 : decide (room < (bs.length : Int) + (ys.length : Int)) = true := decide_eq_true (by omega)
    have qu0 := (blk_cell k2 0).trans (show _ = some (.int .i64 0) from rfl)
    have qf0 := blk_frozen k2 0
    have q0 := blk_put k2 0 (.int .i64 room) rfl
    have qu1 := (blk_cell q0 1).trans (show _ = some (.int .i64 0) from rfl)
    have qf1 := blk_frozen q0 1
    have q1 := blk_put q0 1 (.int .i64 sure) rfl
    have qu2 := (blk_cell q1 2).trans (show _ = some (.slice none 0 0) from rfl)
    have qf2 := blk_frozen q1 2
    have q2 := blk_put q1 2 (.slice AB bs.length cb) rfl
    have HQ := Aside0.mk q2
    clear hr hno hb2 hs2 k1 k2 q0 q1 q2 hcb hB hc hY hl hyl
    go_enter Try.func18, Try.ntmps18
    go_upto_region 1 with (fail)
    try simp only [← hW2]
    clear hW2
    go_wp2
    refine bodyPost_ret (results_ct rfl _ _ (W.heap.size + 1) TRD #[.int .i64 room, .int .i64 sure, .slice AB bs.length cb] (0, 0) _ rfl HQ.out Try.underlying40 rfl (by kernel_rfl)) rfl ?_
    rw [HR.out]
    have hbe : Below W.heap.size W (((W2.setCell ⟨W.heap.size + 1, 0, none⟩ (.int .i64 room)).setCell ⟨W.heap.size + 1, 1, none⟩ (.int .i64 sure)).setCell ⟨W.heap.size + 1, 2, none⟩ (.slice AB bs.length cb)) := below_set (below_set (below_set HB2.out (Nat.le_succ _)) (Nat.le_succ _)) (Nat.le_succ _)
    exact ⟨AB, cb, rfl, HC.out.1, Kd.F_mono (Kd.F_below HBF.out hbe) (fun q hq => .inl hq), hbe⟩
  · have hr : appB room bs ys = (0, bs ++ ys) := if_neg hno
    have HR := Aside0.mk hr
    have d1 : decide ((bs.length : Int) + (ys.length : Int) > room) = false := decide_eq_false (by omega)
    have d2 : decide (room < (bs.length : Int) + (ys.length : Int)) = false := decide_eq_false (by omega)
    obtain ⟨l9, hl9⟩ : ∃ l9, l9 = bs ++ ys := ⟨_, rfl⟩
    have HL9 := Aside0.mk hl9
    have f2 := blk_frozen k1 2
    have HK1 := Aside0.mk k1
    have HK2 := Aside0.mk k2
    clear hr hno hb2 hs2 k1 k2 hcb hB hc hY hl hyl hl9
    go_enter Try.func18, Try.ntmps18
    go_upto_region 1 with (fail)
    try simp only [← hW2]
    clear hW2
    go_upto_region 4 with (first | ((with_reducible refine gate_builtin (b := .append) (xs := #[.tmp 19, .tmp 20]) rfl ?_); at_builtin; refine Kd.R_append_rows (Kd.int .u8) (w0 := W2) W2.heap.size rfl (.tmp 19) (.tmp 20) 22 5 (.int .u8 0) 1 rfl Try.underlying22 info5 rfl (by decide) (by omega) v19 bs ys _ _ _ (fun q => W2.heap.size ≤ q) (fun _ => False) rfl rfl H19.out (Kd.C_below HY.out (below_step HB2.out HB19.out)) (fun _ _ h => h) (fun _ h => h.elim) (fun q hq => Nat.le_trans HB19.out.size hq) HB19.out HB19.out.size (by have := HC.out; have := HYL.out; omega) ?_; intro v21 w21 h21 hb21 hg21 hat21; (rw [← HL9.out] at h21); (have H21 := Aside0.mk h21); (have HB21 := Aside0.mk hb21); (obtain ⟨A9, c9, e9⟩ := Kd.R_slice h21); subst e9; (have k21 := blk_below HK1.out hb21); (have y2 := (blk_cell k21 2).trans (show _ = some (.slice AB bs.length cb) from rfl)); (have g2 := blk_frozen k21 2); clear h21 hb21 hg21 hat21 k21) | ((with_reducible refine gate_builtin (b := .append) (xs := #[.tmp 16, .tmp 18]) rfl ?_); at_builtin; refine Kd.R_append_rows (Kd.int .u8) (w0 := W2) W2.heap.size rfl (.tmp 16) (.tmp 18) 22 5 (.int .u8 0) 1 rfl Try.underlying22 info5 rfl (by decide) (by omega) v16 [] bs _ _ _ (fun q => W2.heap.size ≤ q) (fun _ => False) rfl rfl H16.out (Kd.C_below (Kd.F_now HBF.out) (below_step HB2.out HB16.out)) (fun _ _ h => h) (fun _ h => h.elim) (fun q hq => Nat.le_trans HB16.out.size hq) HB16.out HB16.out.size (by have := HC.out; simp only [List.length_nil]; omega) ?_; intro v19 w19 h19 hb19 hg19 hat19; (rw [List.nil_append] at h19); (have H19 := Aside0.mk h19); (have HB19 := Aside0.mk hb19); clear h19 hb19 hg19 hat19) | ((with_reducible refine gate_dst (N := 16) rfl ?_); refine Kd.R_lit (Kd.int .u8) (w0 := W2) W2.heap.size 5 ?hg (N := 16) ?hd (xs := ([] : List Int)) (inner := []) (ok := fun q => W2.heap.size ≤ q) (okp := fun q => W2.heap.size ≤ q) ?hr ?hp (fun _ hk => hk) (Nat.le_refl _) (Below.refl _ _) (Nat.le_refl _) (by simp) ?_; (case hd => rfl); (case hg => rfl); (case hr => first | (go_simp; done) | (go_simp; rfl)); (case hp => exact Reps.none _ _); intro v16 w16 h16 hb16 hg16 hat16; (have H16 := Aside0.mk h16); (have HB16 := Aside0.mk hb16); (have x2b := pw_cell_below hb16 x2); clear h16 hb16 hg16 hat16))
    obtain ⟨W4, hW4⟩ : ∃ W4 : World, W4 = w21.setCell ⟨W.heap.size, 2, none⟩ (.slice A9 l9.length c9) := ⟨_, rfl⟩
    have hk4 : Kept w21 W4 (fun q => q = W.heap.size) := by rw [hW4]; exact Kept.setCell (S := fun q => q = W.heap.size) (p := ⟨W.heap.size, 2, none⟩) (Kept.refl _ _) (.inl rfl) _
    have hb4 : Below W.heap.size W W4 := by rw [hW4]; exact below_set (HB2.out.trans (HB21.out.mono HB2.out.size)) (Nat.le_refl _)
    have k1 : W4.heap[W.heap.size]? = some (.cells #[.int .i64 room, .int .i64 sure, .slice A9 l9.length c9] TRD (0, 0)) := by rw [hW4]; exact blk_put (blk_below HK1.out HB21.out) 2 _ rfl
    have k2 : W4.heap[W.heap.size + 1]? = some (.cells #[.int .i64 0, .int .i64 0, .slice none 0 0] TRD (0, 0)) := by rw [hW4]; exact blk_far (blk_below HK2.out HB21.out) (Nat.succ_ne_self _) _
    have hf4 : Kd.F (Kd.int .u8) W4 (fun q => W2.heap.size ≤ q) A9 l9.length l9 := Kd.F_kept (Kd.R_F H21.out) hk4 (fun q hq e_ => by
      have h1 := HS2.out
      have h2 : W2.heap.size ≤ q := hq
      have h3 : q = W.heap.size := e_
      omega)
    try rw [← hW4]
    clear hW4 x0 x1 x2 x2b y2 f2 g2
    have x0 : W4.cell? ⟨W.heap.size, 0, none⟩ = some (.int .i64 room) := (blk_cell k1 0).trans rfl
    have x1 : W4.cell? ⟨W.heap.size, 1, none⟩ = some (.int .i64 sure) := (blk_cell k1 1).trans rfl
    have x2 : W4.cell? ⟨W.heap.size, 2, none⟩ = some (.slice A9 l9.length c9) := (blk_cell k1 2).trans rfl
    have qu0 := (blk_cell k2 0).trans (show _ = some (.int .i64 0) from rfl)
    have qf0 := blk_frozen k2 0
    have q0 := blk_put k2 0 (.int .i64 room) rfl
    have qu1 := (blk_cell q0 1).trans (show _ = some (.int .i64 0) from rfl)
    have qf1 := blk_frozen q0 1
    have q1 := blk_put q0 1 (.int .i64 sure) rfl
    have qu2 := (blk_cell q1 2).trans (show _ = some (.slice none 0 0) from rfl)
    have qf2 := blk_frozen q1 2
    have q2 := blk_put q1 2 (.slice A9 l9.length c9) rfl
    have HQ := Aside0.mk q2
    have HB4 := Aside0.mk hb4
    have HF4 := Aside0.mk hf4
    clear k1 k2 q0 q1 q2 hb4 hf4 hk4
    go_wp2
    refine bodyPost_ret (results_ct rfl _ _ (W.heap.size + 1) TRD #[.int .i64 room, .int .i64 sure, .slice A9 l9.length c9] (0, 0) _ rfl HQ.out Try.underlying40 rfl (by kernel_rfl)) rfl ?_
    rw [HR.out, ← HL9.out]
    have hk9 : Kept W4 (((W4.setCell ⟨W.heap.size + 1, 0, none⟩ (.int .i64 room)).setCell ⟨W.heap.size + 1, 1, none⟩ (.int .i64 sure)).setCell ⟨W.heap.size + 1, 2, none⟩ (.slice A9 l9.length c9)) (fun q => q = W.heap.size + 1) := Kept.setCell (S := fun q => q = W.heap.size + 1) (p := ⟨W.heap.size + 1, 2, none⟩) (Kept.setCell (S := fun q => q = W.heap.size + 1) (p := ⟨W.heap.size + 1, 1, none⟩) (Kept.setCell (S := fun q => q = W.heap.size + 1) (p := ⟨W.heap.size + 1, 0, none⟩) (Kept.refl _ _) (.inl rfl) _) (.inl rfl) _) (.inl rfl) _
    have h1 := HS2.out
    exact ⟨A9, c9, rfl, (Kd.R_reads' H21.out).2.1, Kd.F_mono (Kd.F_kept HF4.out hk9 (fun q hq e_ => by
      have h2 : W2.heap.size ≤ q := hq
      have h3 : q = W.heap.size + 1 := e_
      omega)) (fun q hq => .inr (by
      have h2 : W2.heap.size ≤ q := hq
      omega)), below_set (below_set (below_set HB4.out (Nat.le_succ _)) (Nat.le_succ _)) (Nat.le_succ _)⟩
theorem rbetween_h (a hi : Int) (h0 : 0 ≤ hi) (w : World) : Calls Try.prog 42 #[.int .i64 a, .int .i64 hi] w fun e w' => e = .returned (.int .i64 (heldN a hi)) ∧ w' = w := by
  go_enter Try.func42, Try.ntmps42
  go_wp2
  all_goals
    go_ret
    refine ⟨congrArg (fun z => Ending.returned (.int .i64 z)) ?_, rfl⟩
    unfold heldN mn mx
    repeat' split
    all_goals omega
set_option maxHeartbeats 8000000 in
set_option maxRecDepth 100000 in
theorem rsync (room sure : Int) (n : Nat) (AB : Option Addr) (cb : Nat) (W : World) :
    Calls Try.prog 49 #[.agg #[.int .i64 room, .int .i64 sure, .slice AB n cb]] W fun x w' => x = .returned (.agg #[.int .i64 room, .int .i64 (n : Int), .slice AB n cb]) ∧ Below W.heap.size W w' := by
  obtain ⟨W2, hW2⟩ : ∃ W2 : World, W2 = (W.alloc (.cells #[.int .i64 room, .int .i64 sure, .slice AB n cb] TRD)).alloc (.cells #[.int .i64 0, .int .i64 0, .slice none 0 0] TRD) := ⟨_, rfl⟩
  have hb2 : Below W.heap.size W W2 := by rw [hW2]; exact below_alloc (below_alloc (Below.refl _ _) _) _
  have hs2 : W2.heap.size = W.heap.size + 2 := by rw [hW2]; simp
  have k1 : W2.heap[W.heap.size]? = some (.cells #[.int .i64 room, .int .i64 sure, .slice AB n cb] TRD (0, 0)) := by rw [hW2]; exact blk_alloc (blk_new _ _) _
  have k2 : W2.heap[W.heap.size + 1]? = some (.cells #[.int .i64 0, .int .i64 0, .slice none 0 0] TRD (0, 0)) := by
    rw [hW2]
    have := blk_new (W.alloc (.cells #[.int .i64 room, .int .i64 sure, .slice AB n cb] TRD)) (.cells #[.int .i64 0, .int .i64 0, .slice none 0 0] TRD)
    simpa using this
  have y2 : W2.cell? ⟨W.heap.size, 2, none⟩ = some (.slice AB n cb) := (blk_cell k1 2).trans rfl
  have y1 : W2.cell? ⟨W.heap.size, 1, none⟩ = some (.int .i64 sure) := (blk_cell k1 1).trans rfl
  have f1 := blk_frozen k1 1
  have k1b := blk_put k1 1 (.int .i64 (n : Int)) rfl
  have k2b := blk_far (p := ⟨W.heap.size, 1, none⟩) k2 (Nat.succ_ne_self _) (.int .i64 (n : Int))
  have x0 : (W2.setCell ⟨W.heap.size, 1, none⟩ (.int .i64 (n : Int))).cell? ⟨W.heap.size, 0, none⟩ = some (.int .i64 room) := (blk_cell k1b 0).trans rfl
  have x1 : (W2.setCell ⟨W.heap.size, 1, none⟩ (.int .i64 (n : Int))).cell? ⟨W.heap.size, 1, none⟩ = some (.int .i64 (n : Int)) := (blk_cell k1b 1).trans rfl
  have x2 : (W2.setCell ⟨W.heap.size, 1, none⟩ (.int .i64 (n : Int))).cell? ⟨W.heap.size, 2, none⟩ = some (.slice AB n cb) := (blk_cell k1b 2).trans rfl
  have qu0 := (blk_cell k2b 0).trans (show _ = some (.int .i64 0) from rfl)
  have qf0 := blk_frozen k2b 0
  have q0 := blk_put k2b 0 (.int .i64 room) rfl
  have qu1 := (blk_cell q0 1).trans (show _ = some (.int .i64 0) from rfl)
  have qf1 := blk_frozen q0 1
  have q1 := blk_put q0 1 (.int .i64 (n : Int)) rfl
  have qu2 := (blk_cell q1 2).trans (show _ = some (.slice none 0 0) from rfl)
  have qf2 := blk_frozen q1 2
  have q2 := blk_put q1 2 (.slice AB n cb) rfl
  have HQ := Aside0.mk q2
  have HB2 := Aside0.mk hb2
  clear hb2 hs2 k1 k2 k1b k2b q0 q1 q2
  go_enter Try.func49, Try.ntmps49
  go_upto_region 1 with (fail)
  try simp only [← hW2]
  clear hW2
  go_wp2
  refine bodyPost_ret (results_cell_row rfl _ _ (W.heap.size + 1) TRD #[.int .i64 room, .int .i64 (n : Int), .slice AB n cb] (0, 0) _ rfl HQ.out Try.underlying40 rfl (by kernel_rfl)) rfl ⟨rfl, ?_⟩
  exact below_set (below_set (below_set (below_set HB2.out (Nat.le_refl _)) (Nat.le_succ _)) (Nat.le_succ _)) (Nat.le_succ _)
set_option maxHeartbeats 8000000 in
set_option maxRecDepth 100000 in
theorem rcrash (room sure keep : Int) (n m : Nat) (AB : Option Addr) (cb : Nat) (W : World) (hs0 : 0 ≤ sure) (hs1 : sure ≤ n) (hn : n ≤ 65536) (hm : sure + heldN keep (n - sure) = (m : Int)) (hcb : n ≤ cb) :
    Calls Try.prog 50 #[.agg #[.int .i64 room, .int .i64 sure, .slice AB n cb], .int .i64 keep] W fun x w' => x = .returned (.agg #[.int .i64 room, .int .i64 (m : Int), .slice AB m cb]) ∧ Below W.heap.size W w' := by
  have hq : 0 ≤ heldN keep (n - sure) ∧ heldN keep (n - sure) ≤ n - sure := by unfold heldN mn mx; split <;> split <;> omega
  have HM : Aside0 (m ≤ n) := ⟨by omega⟩
  have HSU := Aside0.mk hs0
  have HCB := Aside0.mk hcb
  have HNB : Aside0 (n ≤ 1000000) := ⟨by omega⟩
  have w1_ : IntKind.i64.wrap ((n : Int) - sure) = (n : Int) - sure := IntWalk.i64_in _ (by omega)
  obtain ⟨qq, hqq⟩ : ∃ qq, heldN keep ((n : Int) - sure) = qq := ⟨_, rfl⟩
  rw [hqq] at hm hq
  have w2_ : IntKind.i64.wrap (sure + qq) = (m : Int) := by rw [IntWalk.i64_in _ (by omega)]; exact hm
  have w3_ : wrap64 (sure + qq) = (m : Int) := by rw [LEv.w64 _ (by omega) (by omega)]; exact hm
  obtain ⟨W2, hW2⟩ : ∃ W2 : World, W2 = (W.alloc (.cells #[.int .i64 room, .int .i64 sure, .slice AB n cb] TRD)).alloc (.cells #[.int .i64 0, .int .i64 0, .slice none 0 0] TRD) := ⟨_, rfl⟩
  have hb2 : Below W.heap.size W W2 := by rw [hW2]; exact below_alloc (below_alloc (Below.refl _ _) _) _
  have hs2 : W2.heap.size = W.heap.size + 2 := by rw [hW2]; simp
  have k1 : W2.heap[W.heap.size]? = some (.cells #[.int .i64 room, .int .i64 sure, .slice AB n cb] TRD (0, 0)) := by rw [hW2]; exact blk_alloc (blk_new _ _) _
  have k2 : W2.heap[W.heap.size + 1]? = some (.cells #[.int .i64 0, .int .i64 0, .slice none 0 0] TRD (0, 0)) := by
    rw [hW2]
    have := blk_new (W.alloc (.cells #[.int .i64 room, .int .i64 sure, .slice AB n cb] TRD)) (.cells #[.int .i64 0, .int .i64 0, .slice none 0 0] TRD)
    simpa using this
  have x0 : W2.cell? ⟨W.heap.size, 0, none⟩ = some (.int .i64 room) := (blk_cell k1 0).trans rfl
  have x1 : W2.cell? ⟨W.heap.size, 1, none⟩ = some (.int .i64 sure) := (blk_cell k1 1).trans rfl
  have x2 : W2.cell? ⟨W.heap.size, 2, none⟩ = some (.slice AB n cb) := (blk_cell k1 2).trans rfl
  have HB2 := Aside0.mk hb2
  have HK2 := Aside0.mk k2
  clear hb2 hs2 k1 k2 hq hm
  go_enter Try.func50, Try.ntmps50
  go_upto_region 1 with (fail)
  try simp only [← hW2]
  clear hW2
  refine wp_region_still_tail 12 (by kernel_rfl) (by kernel_rfl) ?_
  simp only [List.take_succ_cons, List.take_zero, List.drop_succ_cons, List.drop_zero]
  repeat still_step
  still_call (rbetween_h keep ((n : Int) - sure) (by omega) W2.drew)
  simp only [hqq]
  repeat still_step
  refine wpStill_nil ?_
  change wpList _ _ _ _ _ W2.drew
  go_wp2_with (first | (go_at_call 49; (with_reducible refine (rsync room (mn sure (m : Int)) m AB cb _).mono ?_); rintro x ws ⟨rfl, hbs⟩; (have HBS : Aside0 (Below W2.heap.size W2 ws) := ⟨below_step (below_step HBC.out (by with_reducible repeat (first | exact Below.refl _ _ | apply below_alloc | apply below_drew))) hbs⟩); (have kz := blk_below HK2.out HBS.out); (have qu0 := (blk_cell kz 0).trans (show _ = some (.int .i64 0) from rfl)); (have qf0 := blk_frozen kz 0); (have q0 := blk_put kz 0 (.int .i64 room) rfl); (have qu1 := (blk_cell q0 1).trans (show _ = some (.int .i64 0) from rfl)); (have qf1 := blk_frozen q0 1); (have q1 := blk_put q0 1 (.int .i64 (m : Int)) rfl); (have qu2 := (blk_cell q1 2).trans (show _ = some (.slice none 0 0) from rfl)); (have qf2 := blk_frozen q1 2); (have q2 := blk_put q1 2 (.slice AB m cb) rfl); (have HQ := Aside0.mk q2); clear hbs kz q0 q1 q2) | (go_at_call 45; (with_reducible refine (rcut.calls room sure n AB cb m HM.out HSU.out _ HCB.out HNB.out).mono ?_); rintro x wc ⟨rfl, hbc⟩; (have HBC : Aside0 (Below W2.heap.size W2 wc) := ⟨below_step (by with_reducible repeat (first | exact Below.refl _ _ | apply below_alloc | apply below_drew | apply pw_below_drewN)) hbc⟩); clear hbc))
  refine bodyPost_ret (results_cell_row rfl _ _ (W.heap.size + 1) TRD #[.int .i64 room, .int .i64 (m : Int), .slice AB m cb] (0, 0) _ rfl HQ.out Try.underlying40 rfl (by kernel_rfl)) rfl ⟨rfl, ?_⟩
  exact below_set (below_set (below_set (HB2.out.trans (HBS.out.mono HB2.out.size)) (Nat.le_succ _)) (Nat.le_succ _)) (Nat.le_succ _)
end Go.Proofs.Ytogjnipojakfjaa.JJour

/- The reference of the journal: its Append, its Do; their walks, by contents. -/
namespace Go.Proofs.Ytogjnipojakfjaa.JJour
open Go.RowKit Go.Proofs.Ytogjnipojakfjaa.PJd Go.Proofs.YtogjnipojakfjaaW.PrintWords Go.Proofs.YtogjnipojakfjaaW.PrintLast Go.Proofs.YtogjnipojakfjaaW.PrintMore
open LSame (Byt)
open LChain (msgS tagS zeroT)
open DDev (Dev dev_below dev_kept dev_drewN dev_mono T8 TD heldN)
set_option linter.unusedVariables false
set_option linter.unusedSimpArgs false
/-- what a journal's value holds -/
structure RC (w : World) (P : Nat → Prop) (s : St) (AL : Option Addr) (cl : Nat) (AT : Option Addr) (ct : Nat) (AB : Option Addr) (cb : Nat) : Prop where
  l : s.L.length ≤ cl ∧ Kd.F kE w P AL s.L.length s.L
  t : s.tag.length ≤ ct ∧ Kd.F (Kd.int .u8) w P AT s.tag.length s.tag
  b : s.bs.length ≤ cb ∧ Kd.F (Kd.int .u8) w P AB s.bs.length s.bs
set_option maxHeartbeats 32000000 in
set_option maxRecDepth 100000 in
theorem rapp49 (s : St) (hG : Good s) (Ak : Option Addr) (ck : Nat) (e : Ent) (heb : Byt e.f1) (Ae : Option Addr) (ce : Nat) (AL AT AB : Option Addr) (cl ct cb : Nat) (P : Nat → Prop) (W : World) (hck : s.key.length ≤ ck) (hK : Kd.C (Kd.int .u8) W Ak s.key.length s.key) (hRC : RC W P s AL cl AT ct AB cb) (hce : e.f1.length ≤ ce) (hE : Kd.F (Kd.int .u8) W P Ae e.f1.length e.f1) :
    Calls Try.prog 48 #[.slice Ak s.key.length ck, .agg #[.slice AL s.L.length cl, .slice AT s.tag.length ct, .int .i64 s.room, .int .i64 s.sure, .slice AB s.bs.length cb], .agg #[.int .i64 e.f0, .slice Ae e.f1.length ce]] W fun x w' => ∃ AL' cl' AT' ct' AB' cb', x = .returned (.tuple #[.agg #[.slice AL' (appS s e).2.L.length cl', .slice AT' (appS s e).2.tag.length ct', .int .i64 (appS s e).2.room, .int .i64 (appS s e).2.sure, .slice AB' (appS s e).2.bs.length cb'], .int .i64 (appS s e).1]) ∧ RC w' (fun q => P q ∨ W.heap.size ≤ q) (appS s e).2 AL' cl' AT' ct' AB' cb' ∧ Below W.heap.size W w' := by
  obtain ⟨W3, hW3⟩ : ∃ W3 : World, W3 = ((W.alloc (.cells #[.slice AL s.L.length cl, .slice AT s.tag.length ct, .int .i64 s.room, .int .i64 s.sure, .slice AB s.bs.length cb] TRJ)).alloc (.cells #[.int .i64 e.f0, .slice Ae e.f1.length ce] TE)).alloc (.cells #[.slice none 0 0, .slice none 0 0, .int .i64 0, .int .i64 0, .slice none 0 0] TRJ) := ⟨_, rfl⟩
  have hb3 : Below W.heap.size W W3 := by rw [hW3]; exact below_alloc (below_alloc (below_alloc (Below.refl _ _) _) _) _
  have hs3 : W3.heap.size = W.heap.size + 3 := by rw [hW3]; simp
  have k4 : W3.heap[W.heap.size]? = some (.cells #[.slice AL s.L.length cl, .slice AT s.tag.length ct, .int .i64 s.room, .int .i64 s.sure, .slice AB s.bs.length cb] TRJ (0, 0)) := by rw [hW3]; exact blk_alloc (blk_alloc (blk_new _ _) _) _
  have k5 : W3.heap[W.heap.size + 1]? = some (.cells #[.int .i64 e.f0, .slice Ae e.f1.length ce] TE (0, 0)) := by
    rw [hW3]
    have := blk_alloc (blk_new (W.alloc (.cells #[.slice AL s.L.length cl, .slice AT s.tag.length ct, .int .i64 s.room, .int .i64 s.sure, .slice AB s.bs.length cb] TRJ)) (.cells #[.int .i64 e.f0, .slice Ae e.f1.length ce] TE)) (.cells #[.slice none 0 0, .slice none 0 0, .int .i64 0, .int .i64 0, .slice none 0 0] TRJ)
    simpa using this
  have k6 : W3.heap[W.heap.size + 2]? = some (.cells #[.slice none 0 0, .slice none 0 0, .int .i64 0, .int .i64 0, .slice none 0 0] TRJ (0, 0)) := by
    rw [hW3]
    have := blk_new ((W.alloc (.cells #[.slice AL s.L.length cl, .slice AT s.tag.length ct, .int .i64 s.room, .int .i64 s.sure, .slice AB s.bs.length cb] TRJ)).alloc (.cells #[.int .i64 e.f0, .slice Ae e.f1.length ce] TE)) (.cells #[.slice none 0 0, .slice none 0 0, .int .i64 0, .int .i64 0, .slice none 0 0] TRJ)
    simpa using this
  have y0 : W3.cell? ⟨W.heap.size + 1, 0, none⟩ = some (.int .i64 e.f0) := (blk_cell k5 0).trans rfl
  have y1 : W3.cell? ⟨W.heap.size + 1, 1, none⟩ = some (.slice Ae e.f1.length ce) := (blk_cell k5 1).trans rfl
  have K4 := Aside0.mk k4
  have K5 := Aside0.mk k5
  have K6 := Aside0.mk k6
  have HB03 := Aside0.mk hb3
  have HS3 := Aside0.mk hs3
  have HRC := Aside0.mk hRC
  have HCE := Aside0.mk hce
  have HEF := Aside0.mk hE
  have HEC := Aside0.mk (Kd.C_below (Kd.F_now hE) hb3)
  have HTC := Aside0.mk (Kd.C_below (Kd.F_now hRC.t.2) hb3)
  have HKC := Aside0.mk (Kd.C_below hK hb3)
  have HCK := Aside0.mk hck
  have HG := Aside0.mk hG
  obtain ⟨kP, hkP⟩ := Ev.rounds (LEnt.rpayload_ev e.f0 e.f1)
  obtain ⟨px, hpx⟩ : ∃ px, (LEnt.payS e.f0 e.f1).2 = px := ⟨_, rfl⟩
  have hkP' : notaryref46_Payload.f kP e.f0 e.f1 = some ((LEnt.payS e.f0 e.f1).1, px) := by rw [hkP, ← hpx]
  have HKP := Aside0.mk hkP'
  have hm2 : (msgS s.tag ((s.n : Int) + 1) e.f0 e.f1).2 = px := by
    unfold msgS
    rw [if_pos hG.tl, ← hpx]
    split
    · rename_i h; rw [h]
    · rfl
  have hu := Try.underlying35
  have hu2 := Try.underlying46
  by_cases h0 : px = 0
  case neg =>
    have hr : appS s e = (px, s) := by unfold appS; rw [if_neg (by rw [hm2]; exact h0), hm2]
    have HR := Aside0.mk hr
    have c1_ : (px != 0) = true := bne_iff_ne.mpr h0
    have c2_ : (px == 0) = false := beq_eq_false_iff_ne.mpr h0
    clear hb3 hs3 k4 k5 k6 hRC hce hE hK hck hG hkP hkP' hpx hm2 hr h0 heb
    go_enter Try.func48, Try.ntmps48
    go_upto_region 1 with (fail)
    try simp only [← hW3]
    clear hW3
    go_upto_region 3 with (go_at_call 63; (with_reducible refine (notaryref46_Payload.calls kP e.f0 Ae ce e.f1 (LEnt.payS e.f0 e.f1).1 px _ (Kd.C_below HEC.out (by with_reducible repeat (first | exact Below.refl _ _ | apply below_alloc | apply below_drew))) HCE.out HKP.out).mono ?_); rintro x w4 ⟨v4, rfl, ho4, hb4⟩; (have HB4 : Aside0 (Below W3.heap.size W3 w4) := ⟨below_step (by with_reducible repeat (first | exact Below.refl _ _ | apply below_alloc | apply below_drew)) hb4⟩); (obtain ⟨Ap, cp, rfl⟩ := Kd.R_slice ho4); clear ho4 hb4)
    have k4 := blk_below K4.out HB4.out
    have k6 := blk_below K6.out HB4.out
    have x0 : w4.cell? ⟨W.heap.size, 0, none⟩ = some (.slice AL s.L.length cl) := (blk_cell k4 0).trans rfl
    have x1 : w4.cell? ⟨W.heap.size, 1, none⟩ = some (.slice AT s.tag.length ct) := (blk_cell k4 1).trans rfl
    have x2 : w4.cell? ⟨W.heap.size, 2, none⟩ = some (.int .i64 s.room) := (blk_cell k4 2).trans rfl
    have x3 : w4.cell? ⟨W.heap.size, 3, none⟩ = some (.int .i64 s.sure) := (blk_cell k4 3).trans rfl
    have x4 : w4.cell? ⟨W.heap.size, 4, none⟩ = some (.slice AB s.bs.length cb) := (blk_cell k4 4).trans rfl
    have qu0 := (blk_cell k6 0).trans (show _ = some (.slice none 0 0) from rfl)
    have qf0 := blk_frozen k6 0
    have q0 := blk_put k6 0 (.slice AL s.L.length cl) rfl
    have qu1 := (blk_cell q0 1).trans (show _ = some (.slice none 0 0) from rfl)
    have qf1 := blk_frozen q0 1
    have q1 := blk_put q0 1 (.slice AT s.tag.length ct) rfl
    have qu2 := (blk_cell q1 2).trans (show _ = some (.int .i64 0) from rfl)
    have qf2 := blk_frozen q1 2
    have q2 := blk_put q1 2 (.int .i64 s.room) rfl
    have qu3 := (blk_cell q2 3).trans (show _ = some (.int .i64 0) from rfl)
    have qf3 := blk_frozen q2 3
    have q3 := blk_put q2 3 (.int .i64 s.sure) rfl
    have qu4 := (blk_cell q3 4).trans (show _ = some (.slice none 0 0) from rfl)
    have qf4 := blk_frozen q3 4
    have q4 := blk_put q3 4 (.slice AB s.bs.length cb) rfl
    have HQ := Aside0.mk q4
    have HBx : Aside0 (Below W.heap.size W w4) := ⟨HB03.out.trans (HB4.out.mono HB03.out.size)⟩
    clear k4 k6 q0 q1 q2 q3 q4
    go_wp2
    refine bodyPost_ret (results_ct rfl _ _ (W.heap.size + 2) TRJ #[.slice AL s.L.length cl, .slice AT s.tag.length ct, .int .i64 s.room, .int .i64 s.sure, .slice AB s.bs.length cb] (0, 0) _ rfl HQ.out Try.underlying46 rfl (by kernel_rfl)) rfl ?_
    rw [HR.out]
    have hbe : Below W.heap.size W (((((w4.setCell ⟨W.heap.size + 2, 0, none⟩ (.slice AL s.L.length cl)).setCell ⟨W.heap.size + 2, 1, none⟩ (.slice AT s.tag.length ct)).setCell ⟨W.heap.size + 2, 2, none⟩ (.int .i64 s.room)).setCell ⟨W.heap.size + 2, 3, none⟩ (.int .i64 s.sure)).setCell ⟨W.heap.size + 2, 4, none⟩ (.slice AB s.bs.length cb)) := below_set (below_set (below_set (below_set (below_set (HBx.out) (Nat.le_add_right _ 2)) (Nat.le_add_right _ 2)) (Nat.le_add_right _ 2)) (Nat.le_add_right _ 2)) (Nat.le_add_right _ 2)
    exact ⟨AL, cl, AT, ct, AB, cb, rfl, ⟨⟨HRC.out.l.1, Kd.F_mono (Kd.F_below HRC.out.l.2 hbe) (fun q hq => .inl hq)⟩, ⟨HRC.out.t.1, Kd.F_mono (Kd.F_below HRC.out.t.2 hbe) (fun q hq => .inl hq)⟩, ⟨HRC.out.b.1, Kd.F_mono (Kd.F_below HRC.out.b.2 hbe) (fun q hq => .inl hq)⟩⟩, hbe⟩
  subst h0
  obtain ⟨fk1, fk2, fk3, fk4⟩ := msg_inv s.tag ((s.n : Int) + 1) e.f0 e.f1 hm2
  obtain ⟨mb, ml⟩ := msg_fine s.tag ((s.n : Int) + 1) e.f0 e.f1 hG.tb heb hm2
  obtain ⟨tl, tb, _, _⟩ := LChain.tagS_spec s.key _ hG.kb hG.kl mb (by omega)
  have hfo : LChain.FrOk (e, s.tag) := ⟨fk2, fk3, fk4, heb, hG.tl, hG.tb⟩
  have hnb := hG.nb
  have hb0 := hG.b0
  have hr1 := hG.r1
  have hn := LChain.next_ev s.key s.tag ((s.n : Int) + 1) (e, s.tag) hfo hG.kb hG.kl hG.tb hG.tl (by omega) (by omega)
  simp only at hn
  obtain ⟨wt, hwt⟩ : ∃ wt, wt = tagS s.key (msgS s.tag ((s.n : Int) + 1) e.f0 e.f1).1 := ⟨_, rfl⟩
  rw [← hwt] at hn tl tb
  rw [show (s.n : Int) = (s.L.length : Int) by rw [hG.nl]] at hn
  obtain ⟨kN, hkN⟩ := Ev.rounds hn
  have HKN := Aside0.mk hkN
  obtain ⟨f1_, f2_, f3_⟩ := frS_fine e wt heb tl tb ⟨fk2, fk3, fk4⟩
  obtain ⟨fr, hfr⟩ : ∃ fr, fr = (LEnt.frS e.f0 e.f1 wt).1 := ⟨_, rfl⟩
  obtain ⟨kF, hkF⟩ := Ev.rounds (LEnt.rframe_ev e.f0 e.f1 wt)
  have hkF' : notaryref46_Frame.f kF e.f0 e.f1 wt = some (fr, 0) := by rw [hkF, hfr, ← f1_]
  have HKF := Aside0.mk hkF'
  rw [← hfr] at f2_ f3_
  have HFL : Aside0 (fr.length ≤ 1000000) := ⟨by omega⟩
  have HBS : Aside0 (s.bs.length ≤ 65536) := ⟨by omega⟩
  have hwl : IntKind.i64.wrap ((s.L.length : Int) + 1) = (s.L.length : Int) + 1 := IntWalk.i64_in _ (by have := hG.nl; omega)
  have HLL : Aside0 (s.L.length < 1000000) := ⟨by have := hG.nl; omega⟩
  have x0 : W3.cell? ⟨W.heap.size, 0, none⟩ = some (.slice AL s.L.length cl) := (blk_cell k4 0).trans rfl
  have x1 : W3.cell? ⟨W.heap.size, 1, none⟩ = some (.slice AT s.tag.length ct) := (blk_cell k4 1).trans rfl
  have x2 : W3.cell? ⟨W.heap.size, 2, none⟩ = some (.int .i64 s.room) := (blk_cell k4 2).trans rfl
  have x3 : W3.cell? ⟨W.heap.size, 3, none⟩ = some (.int .i64 s.sure) := (blk_cell k4 3).trans rfl
  have x4 : W3.cell? ⟨W.heap.size, 4, none⟩ = some (.slice AB s.bs.length cb) := (blk_cell k4 4).trans rfl
  obtain ⟨ar, b9, hab_⟩ : ∃ ar b9, appB s.room s.bs fr = (ar, b9) := ⟨_, _, rfl⟩
  have HAB := Aside0.mk hab_
  have hap : appS s e = (if s.room - s.bs.length < fr.length then (28, s) else (0, { s with n := s.n + 1, tag := wt, L := s.L ++ [e], bs := s.bs ++ fr })) := by
    unfold appS
    rw [if_pos hm2, ← hwt, ← hfr]
  go_enter Try.func48, Try.ntmps48
  clear hb3 hs3 k4 k5 k6 hRC hce hE hK hck hG hkP hkP' hpx hm2 heb fk1 fk2 fk3 fk4 mb ml tl tb hfo hnb hb0 hr1 hn hwt hkN f1_ f2_ f3_ hfr hkF hkF' hab_
  go_upto_region 1 with (fail)
  try simp only [← hW3]
  clear hW3
  go_upto_region 7 with (first | (go_at_call 18; (with_reducible refine (rapp48 s.room s.sure s.bs fr AB A6 cb c6 (fun q => P q ∧ q < W.heap.size) _ HRC.out.b.1 (Kd.F_below (Kd.F_below (Kd.F_bound HRC.out.b.2) HB03.out) (below_step HB6.out (by with_reducible repeat (first | exact Below.refl _ _ | apply below_alloc | apply below_drew)))) H6.out.1 (Kd.C_below H6.out.2 (by with_reducible repeat (first | exact Below.refl _ _ | apply below_alloc | apply below_drew))) HBS.out HFL.out).mono ?_); rintro x w7 ⟨A7, c7, hx7, hl7, hf7, hb7⟩; (simp only [HAB.out] at hx7 hl7 hf7); subst hx7; (have HB7 : Aside0 (Below W3.heap.size W3 w7) := ⟨below_step (below_step HB6.out (by with_reducible repeat (first | exact Below.refl _ _ | apply below_alloc | apply below_drew))) hb7⟩); (have HB67 : Aside0 (Below w6.heap.size w6 w7) := ⟨below_step (by with_reducible repeat (first | exact Below.refl _ _ | apply below_alloc | apply below_drew)) hb7⟩); (have H7 : Aside0 (b9.length ≤ c7 ∧ Kd.F (Kd.int .u8) w7 (fun q => P q ∧ q < W.heap.size ∨ W.heap.size + 3 ≤ q) A7 b9.length b9) := ⟨hl7, Kd.F_mono hf7 (fun q hq => hq.imp (fun h => h) (fun h => by have h1 := HS3.out; have h2 := HB6.out.size; exact Nat.le_trans (by omega) (Nat.le_trans h2 h)))⟩); clear hl7 hf7 hb7) | (go_at_call 64; (with_reducible refine (notaryref46_Frame.calls kF e.f0 Ae ce e.f1 A5 c5 wt fr 0 _ (Kd.C_below HEC.out (below_step HB5.out (by with_reducible repeat (first | exact Below.refl _ _ | apply below_alloc | apply below_drew)))) HCE.out (Kd.C_below (Kd.F_now H5.out.2) (by with_reducible repeat (first | exact Below.refl _ _ | apply below_alloc | apply below_drew))) H5.out.1 HKF.out).mono ?_); rintro x w6 ⟨v6, rfl, ho6, hb6⟩; (obtain ⟨A6, c6, rfl⟩ := Kd.R_slice ho6); (have HB6 : Aside0 (Below W3.heap.size W3 w6) := ⟨below_step (below_step HB5.out (by with_reducible repeat (first | exact Below.refl _ _ | apply below_alloc | apply below_drew))) hb6⟩); (have H6 := Aside0.mk (And.intro (Kd.R_reads' ho6).2.1 (Kd.R_reads' ho6).2.2)); (have HB56 : Aside0 (Below w5.heap.size w5 w6) := ⟨below_step (by with_reducible repeat (first | exact Below.refl _ _ | apply below_alloc | apply below_drew)) hb6⟩); (have d2 := pw_cell_below HB6.out x2); (have d3 := pw_cell_below HB6.out x3); (have d4 := pw_cell_below HB6.out x4); clear ho6 hb6) | (go_at_call 44; (with_reducible refine (notaryref47_Next.calls kN Ak ck s.key AT ct s.tag ((s.L.length : Int) + 1) e.f0 Ae ce e.f1 wt _ (Kd.C_below HKC.out (below_step HB4.out (by with_reducible repeat (first | exact Below.refl _ _ | apply below_alloc | apply below_drew)))) HCK.out (Kd.C_below HTC.out (below_step HB4.out (by with_reducible repeat (first | exact Below.refl _ _ | apply below_alloc | apply below_drew)))) HRC.out.t.1 (Kd.C_below HEC.out (below_step HB4.out (by with_reducible repeat (first | exact Below.refl _ _ | apply below_alloc | apply below_drew)))) HCE.out HKN.out).mono ?_); rintro x w5 ⟨v5, rfl, ho5, hb5⟩; (obtain ⟨A5, c5, rfl⟩ := Kd.R_slice ho5); (have HB5 : Aside0 (Below W3.heap.size W3 w5) := ⟨below_step (below_step HB4.out (by with_reducible repeat (first | exact Below.refl _ _ | apply below_alloc | apply below_drew))) hb5⟩); (have H5 : Aside0 (wt.length ≤ c5 ∧ Kd.F (Kd.int .u8) w5 (fun q => W3.heap.size ≤ q) A5 wt.length wt) := ⟨(Kd.R_reads' ho5).2.1, Kd.F_mono (Kd.R_F (Kd.R_bound ho5)) (fun q hq => Nat.le_trans HB4.out.size hq.2.1)⟩); (have b2 := pw_cell_below HB5.out y0); (have b3 := pw_cell_below HB5.out y1); clear ho5 hb5) | (go_at_call 63; (with_reducible refine (notaryref46_Payload.calls kP e.f0 Ae ce e.f1 (LEnt.payS e.f0 e.f1).1 0 _ (Kd.C_below HEC.out (by with_reducible repeat (first | exact Below.refl _ _ | apply below_alloc | apply below_drew))) HCE.out HKP.out).mono ?_); rintro x w4 ⟨v4, rfl, ho4, hb4⟩; (have HB4 : Aside0 (Below W3.heap.size W3 w4) := ⟨below_step (by with_reducible repeat (first | exact Below.refl _ _ | apply below_alloc | apply below_drew)) hb4⟩); (obtain ⟨Ap, cp, rfl⟩ := Kd.R_slice ho4); (have a0 := pw_cell_below HB4.out x0); (have a1 := pw_cell_below HB4.out x1); (have a2 := pw_cell_below HB4.out y0); (have a3 := pw_cell_below HB4.out y1); clear ho4 hb4))
  obtain ⟨w8, hw8⟩ : ∃ w8 : World, w8 = w7.alloc (.cells #[.int .i64 s.room, .int .i64 s.sure, .slice A7 b9.length c7] TRD) := ⟨_, rfl⟩
  obtain ⟨g13, hg13⟩ : ∃ g13, g13 = w7.heap.size := ⟨_, rfl⟩
  have hb78 : Below w7.heap.size w7 w8 := by rw [hw8]; exact below_alloc (Below.refl _ _) _
  have kd : w8.heap[g13]? = some (.cells #[.int .i64 s.room, .int .i64 s.sure, .slice A7 b9.length c7] TRD (0, 0)) := by rw [hw8, hg13]; exact blk_new _ _
  have HB38 : Aside0 (Below W3.heap.size W3 w8) := ⟨HB7.out.trans (hb78.mono HB7.out.size)⟩
  have HB08 : Aside0 (Below W.heap.size W w8) := ⟨HB03.out.trans (HB38.out.mono HB03.out.size)⟩
  have HB58 : Aside0 (Below w5.heap.size w5 w8) := ⟨(HB56.out.trans (HB67.out.mono HB56.out.size)).trans (hb78.mono (Nat.le_trans HB56.out.size HB67.out.size))⟩
  have HS8 : Aside0 (W.heap.size + 3 ≤ w8.heap.size) := ⟨by have h1 := HS3.out; have h2 := HB38.out.size; omega⟩
  have HB78 : Aside0 (b9.length ≤ c7 ∧ Kd.F (Kd.int .u8) w8 (fun q => P q ∧ q < W.heap.size ∨ W.heap.size + 3 ≤ q) A7 b9.length b9) := ⟨H7.out.1, Kd.F_below H7.out.2 hb78⟩
  have HL8 := Aside0.mk (Kd.F_below (Kd.F_bound HRC.out.l.2) HB08.out)
  have HE8 := Aside0.mk (Kd.F_below (Kd.F_bound HEF.out) HB08.out)
  have HT8 : Aside0 (Kd.F (Kd.int .u8) w8 (fun q => W.heap.size + 3 ≤ q) A5 wt.length wt) := ⟨Kd.F_mono (Kd.F_below H5.out.2 HB58.out) (fun q hq => by have h1 := HS3.out; have h2 : W3.heap.size ≤ q := hq; omega)⟩
  have K68 := Aside0.mk (blk_below K6.out HB38.out)
  have z0 : w8.cell? ⟨W.heap.size, 0, none⟩ = some (.slice AL s.L.length cl) := pw_cell_below HB38.out x0
  have z1 : w8.cell? ⟨W.heap.size + 1, 0, none⟩ = some (.int .i64 e.f0) := pw_cell_below HB38.out y0
  have z2 : w8.cell? ⟨W.heap.size + 1, 1, none⟩ = some (.slice Ae e.f1.length ce) := pw_cell_below HB38.out y1
  have z3 : w8.cell? ⟨g13, 0, none⟩ = some (.int .i64 s.room) := (blk_cell kd 0).trans rfl
  have z4 : w8.cell? ⟨g13, 1, none⟩ = some (.int .i64 s.sure) := (blk_cell kd 1).trans rfl
  have z5 : w8.cell? ⟨g13, 2, none⟩ = some (.slice A7 b9.length c7) := (blk_cell kd 2).trans rfl
  try simp only [← hg13]
  try simp only [← hw8]
  try rw [← hw8]
  clear hw8 hg13 hb78 kd
  by_cases hno : s.room - s.bs.length < fr.length
  · rw [if_pos hno] at hap
    have hab : appB s.room s.bs fr = (28, s.bs) := if_pos hno
    obtain ⟨rfl, rfl⟩ := Prod.mk.inj (HAB.out.symm.trans hab)
    have HR := Aside0.mk hap
    clear hno hap hab
    go_upto_region 8 with (fail)
    have k4 := blk_below K4.out HB38.out
    have k6 := blk_below K6.out HB38.out
    have x0 : w8.cell? ⟨W.heap.size, 0, none⟩ = some (.slice AL s.L.length cl) := (blk_cell k4 0).trans rfl
    have x1 : w8.cell? ⟨W.heap.size, 1, none⟩ = some (.slice AT s.tag.length ct) := (blk_cell k4 1).trans rfl
    have x2 : w8.cell? ⟨W.heap.size, 2, none⟩ = some (.int .i64 s.room) := (blk_cell k4 2).trans rfl
    have x3 : w8.cell? ⟨W.heap.size, 3, none⟩ = some (.int .i64 s.sure) := (blk_cell k4 3).trans rfl
    have x4 : w8.cell? ⟨W.heap.size, 4, none⟩ = some (.slice AB s.bs.length cb) := (blk_cell k4 4).trans rfl
    have qu0 := (blk_cell k6 0).trans (show _ = some (.slice none 0 0) from rfl)
    have qf0 := blk_frozen k6 0
    have q0 := blk_put k6 0 (.slice AL s.L.length cl) rfl
    have qu1 := (blk_cell q0 1).trans (show _ = some (.slice none 0 0) from rfl)
    have qf1 := blk_frozen q0 1
    have q1 := blk_put q0 1 (.slice AT s.tag.length ct) rfl
    have qu2 := (blk_cell q1 2).trans (show _ = some (.int .i64 0) from rfl)
    have qf2 := blk_frozen q1 2
    have q2 := blk_put q1 2 (.int .i64 s.room) rfl
    have qu3 := (blk_cell q2 3).trans (show _ = some (.int .i64 0) from rfl)
    have qf3 := blk_frozen q2 3
    have q3 := blk_put q2 3 (.int .i64 s.sure) rfl
    have qu4 := (blk_cell q3 4).trans (show _ = some (.slice none 0 0) from rfl)
    have qf4 := blk_frozen q3 4
    have q4 := blk_put q3 4 (.slice AB s.bs.length cb) rfl
    have HQ := Aside0.mk q4
    have HBx : Aside0 (Below W.heap.size W w8) := ⟨HB08.out⟩
    clear k4 k6 q0 q1 q2 q3 q4
    go_wp2
    refine bodyPost_ret (results_ct rfl _ _ (W.heap.size + 2) TRJ #[.slice AL s.L.length cl, .slice AT s.tag.length ct, .int .i64 s.room, .int .i64 s.sure, .slice AB s.bs.length cb] (0, 0) _ rfl HQ.out Try.underlying46 rfl (by kernel_rfl)) rfl ?_
    rw [HR.out]
    have hbe : Below W.heap.size W (((((w8.setCell ⟨W.heap.size + 2, 0, none⟩ (.slice AL s.L.length cl)).setCell ⟨W.heap.size + 2, 1, none⟩ (.slice AT s.tag.length ct)).setCell ⟨W.heap.size + 2, 2, none⟩ (.int .i64 s.room)).setCell ⟨W.heap.size + 2, 3, none⟩ (.int .i64 s.sure)).setCell ⟨W.heap.size + 2, 4, none⟩ (.slice AB s.bs.length cb)) := below_set (below_set (below_set (below_set (below_set (HBx.out) (Nat.le_add_right _ 2)) (Nat.le_add_right _ 2)) (Nat.le_add_right _ 2)) (Nat.le_add_right _ 2)) (Nat.le_add_right _ 2)
    exact ⟨AL, cl, AT, ct, AB, cb, rfl, ⟨⟨HRC.out.l.1, Kd.F_mono (Kd.F_below HRC.out.l.2 hbe) (fun q hq => .inl hq)⟩, ⟨HRC.out.t.1, Kd.F_mono (Kd.F_below HRC.out.t.2 hbe) (fun q hq => .inl hq)⟩, ⟨HRC.out.b.1, Kd.F_mono (Kd.F_below HRC.out.b.2 hbe) (fun q hq => .inl hq)⟩⟩, hbe⟩
  · rw [if_neg hno] at hap
    have hab : appB s.room s.bs fr = (0, s.bs ++ fr) := if_neg hno
    obtain ⟨rfl, hb9⟩ := Prod.mk.inj (HAB.out.symm.trans hab)
    obtain ⟨L2, hL2⟩ : ∃ L2, L2 = s.L ++ [e] := ⟨_, rfl⟩
    rw [← hb9, ← hL2] at hap
    have HR := Aside0.mk hap
    have HL2 := Aside0.mk hL2
    clear hno hap hab hb9 hL2
    go_upto_region 9 with (fail)
    refine start_ (n := 12) (S := fun w' => w'.cell? ⟨W.heap.size, 0, none⟩ = some (.slice AL s.L.length cl) ∧ w'.cell? ⟨W.heap.size + 1, 0, none⟩ = some (.int .i64 e.f0) ∧ w'.cell? ⟨W.heap.size + 1, 1, none⟩ = some (.slice Ae e.f1.length ce) ∧ w'.cell? ⟨g13, 0, none⟩ = some (.int .i64 s.room) ∧ w'.cell? ⟨g13, 1, none⟩ = some (.int .i64 s.sure) ∧ w'.cell? ⟨g13, 2, none⟩ = some (.slice A7 b9.length c7)) (ds := [10, 11]) #[false, false, false, false, false, false, false, false, false, false, false, false] (by kernel_rfl) rfl rfl ⟨pw_cell_below (below_drew (Below.refl _ _)) z0, pw_cell_below (below_drew (Below.refl _ _)) z1, pw_cell_below (below_drew (Below.refl _ _)) z2, pw_cell_below (below_drew (Below.refl _ _)) z3, pw_cell_below (below_drew (Below.refl _ _)) z4, pw_cell_below (below_drew (Below.refl _ _)) z5⟩ (fun hHeld => ?_)
    have hb9 : Below w8.heap.size w8 w8.drew := below_drew (Below.refl _ _)
    have K69 := Aside0.mk (blk_below K68.out hb9)
    have HL9 := Aside0.mk (Kd.F_below HL8.out hb9)
    have HE9 := Aside0.mk (Kd.F_below HE8.out hb9)
    have HT9 := Aside0.mk (And.intro H5.out.1 (Kd.F_below HT8.out hb9))
    have HB79 := Aside0.mk (And.intro HB78.out.1 (Kd.F_below HB78.out.2 hb9))
    have HB09 := Aside0.mk (HB08.out.trans (hb9.mono HB08.out.size))
    have HS9 : Aside0 (W.heap.size + 3 ≤ w8.drew.heap.size) := ⟨Nat.le_trans HS8.out hb9.size⟩
    clear hb9 z0 z1 z2 z3 z4 z5
    generalize w8.drew = w9 at K69 HL9 HE9 HT9 HB79 HB09 HS9 hHeld ⊢
    obtain ⟨y0, y1, y2, y3, y4, y5⟩ := hHeld
    have hHeld : w9.cell? ⟨W.heap.size, 0, none⟩ = some (.slice AL s.L.length cl) ∧ w9.cell? ⟨W.heap.size + 1, 0, none⟩ = some (.int .i64 e.f0) ∧ w9.cell? ⟨W.heap.size + 1, 1, none⟩ = some (.slice Ae e.f1.length ce) ∧ w9.cell? ⟨g13, 0, none⟩ = some (.int .i64 s.room) ∧ w9.cell? ⟨g13, 1, none⟩ = some (.int .i64 s.sure) ∧ w9.cell? ⟨g13, 2, none⟩ = some (.slice A7 b9.length c7) := ⟨y0, y1, y2, y3, y4, y5⟩
    have HB9a : Aside0 (Below w9.heap.size w9 w9) := ⟨Below.refl _ _⟩
    have HW9 : Aside0 (W.heap.size ≤ w9.heap.size) := ⟨Nat.le_trans (Nat.le_add_right _ 3) HS9.out⟩
    have HFR : Aside0 (∀ q, w9.heap.size ≤ q → P q ∧ q < W.heap.size ∨ W.heap.size + 3 ≤ q) := ⟨fun q hq => .inr (Nat.le_trans HS9.out hq)⟩
    refine pure_ (i := 1) (N := some 51) (v := ?_) (a' := ?_) #[false, true, false, false, false, false, false, false, false, false, false, false] rfl rfl (by kernel_rfl) (fun _ _ _ h => h) (Or.inl ⟨by rfl, ?_⟩) ?_ ?_
    rotate_left
    · intro w'
      go_simp
      with_reducible rfl
    rotate_left
    · simp only [Act.put, List.setIfInBounds_toArray, List.set_cons_zero, List.set_cons_succ, i64_w, i32_w]
      rfl
    refine take_ (i := 2) (N := some 52) (v := ?_) (a' := ?_) #[false, true, true, false, false, false, false, false, false, false, false, false] rfl rfl (by kernel_rfl) (fun _ _ _ h => h) (Or.inl ⟨by rfl, ?_⟩) hHeld ?_ ?_
    rotate_left
    · rintro w' ⟨s0, s1, s2, s3, s4, s5⟩
      go_simp
      with_reducible rfl
    rotate_left
    · simp only [Act.put, List.setIfInBounds_toArray, List.set_cons_zero, List.set_cons_succ, i64_w, i32_w]
      rfl
    refine take_ (i := 4) (N := some 54) (v := ?_) (a' := ?_) #[false, true, true, false, true, false, false, false, false, false, false, false] rfl rfl (by kernel_rfl) (fun _ _ _ h => h) (Or.inl ⟨by rfl, ?_⟩) hHeld ?_ ?_
    rotate_left
    · rintro w' ⟨s0, s1, s2, s3, s4, s5⟩
      go_simp
      with_reducible rfl
    rotate_left
    · simp only [Act.put, List.setIfInBounds_toArray, List.set_cons_zero, List.set_cons_succ, i64_w, i32_w]
      rfl
    refine pure_ (i := 7) (N := some 57) (v := ?_) (a' := ?_) #[false, true, true, false, true, false, false, true, false, false, false, false] rfl rfl (by kernel_rfl) (fun _ _ _ h => h) (Or.inl ⟨by rfl, ?_⟩) ?_ ?_
    rotate_left
    · intro w'
      go_simp
      with_reducible rfl
    rotate_left
    · simp only [Act.put, List.setIfInBounds_toArray, List.set_cons_zero, List.set_cons_succ, i64_w, i32_w]
      rfl
    refine take_ (i := 8) (N := some 58) (v := ?_) (a' := ?_) #[false, true, true, false, true, false, false, true, true, false, false, false] rfl rfl (by kernel_rfl) (fun _ _ _ h => h) (Or.inl ⟨by rfl, ?_⟩) hHeld ?_ ?_
    rotate_left
    · rintro w' ⟨s0, s1, s2, s3, s4, s5⟩
      go_simp
      with_reducible rfl
    rotate_left
    · simp only [Act.put, List.setIfInBounds_toArray, List.set_cons_zero, List.set_cons_succ, i64_w, i32_w]
      rfl
    refine join_ (σ := Value × Value × Value) 4 #[true, true, true, true, true, true, false, true, true, false, false, false] (fun s_ => [(50, s_.1), (53, s_.2.1), (55, s_.2.2)]) (fun s_ w' => (w'.cell? ⟨W.heap.size, 0, none⟩ = some (.slice AL s.L.length cl) ∧ w'.cell? ⟨W.heap.size + 1, 0, none⟩ = some (.int .i64 e.f0) ∧ w'.cell? ⟨W.heap.size + 1, 1, none⟩ = some (.slice Ae e.f1.length ce) ∧ w'.cell? ⟨g13, 0, none⟩ = some (.int .i64 s.room) ∧ w'.cell? ⟨g13, 1, none⟩ = some (.int .i64 s.sure) ∧ w'.cell? ⟨g13, 2, none⟩ = some (.slice A7 b9.length c7)) ∧ Kd.N kE TE w' w9.heap.size (fun q => P q ∧ q < W.heap.size ∨ W.heap.size + 3 ≤ q) s_.2.1 s.L ∧ Kd.N kE TE w' w9.heap.size (fun q => (fun q => P q ∧ q < W.heap.size ∨ W.heap.size + 3 ≤ q) q ∧ some q ≠ s_.2.1.ownBlock) s_.2.2 [e] ∧ Below w9.heap.size w9 w') ?_ ?_
    rotate_left
    · intro hCont
      refine two_ (i := 0) (j := 5) (Ni := some 50) (Nj := some 55) #[true, true, true, false, true, false, false, true, true, false, false, false] #[false, true, true, false, true, true, false, true, true, false, false, false] rfl rfl rfl rfl (by kernel_rfl) (by decide) (by decide) (fun K hK => ?_) (fun K hK => ?_)
      · refine Kd.N_lit_step kE (w0 := w9) w9.heap.size TE ?hg (N' := 50) ?hd (xs := ([] : List Ent)) (inner := []) (ok := (fun q => P q ∧ q < W.heap.size ∨ W.heap.size + 3 ≤ q)) (okp := (fun q => P q ∧ q < W.heap.size ∨ W.heap.size + 3 ≤ q)) ?hr ?hp (fun _ hk => hk) (HFR.out _ HB9a.out.size) HB9a.out HB9a.out.size (by simp) ?_; (case hd => rfl); (case hg => rfl); (case hr => first | (go_simp; done) | (go_simp; rfl)); (case hp => exact (Reps.none _ _))
        intro v43 w10 hn43 hb10 hg10 hat10; have HN43 := Aside0.mk hn43; have HB10 := Aside0.mk hb10; clear hn43 hb10 hg10 hat10
        refine hK.out _ _ ⟨pw_cell_below HB10.out y0, pw_cell_below HB10.out y1, pw_cell_below HB10.out y2, pw_cell_below HB10.out y3, pw_cell_below HB10.out y4, pw_cell_below HB10.out y5⟩ (fun hHeld => ?_)
        clear hK K
        refine norm_ (a' := ?_) ?_ ?_
        rotate_left
        · show Act.put _ (some 50) _ = _
          simp only [Act.put, List.setIfInBounds_toArray, List.set_cons_zero, List.set_cons_succ, i64_w, i32_w]
          rfl
        refine two_ (i := 3) (j := 5) (Ni := some 53) (Nj := some 55) #[true, true, true, true, true, false, false, true, true, false, false, false] #[true, true, true, false, true, true, false, true, true, false, false, false] rfl rfl rfl rfl (by kernel_rfl) (by decide) (by decide) (fun K hK => ?_) (fun K hK => ?_)
        · refine Kd.N_append_rows_step kE (w0 := w9) w9.heap.size rfl (.tmp 50) (.tmp 52) 23 TE (.agg #[(.int .i64 0), (.slice none 0 0)]) 32 rfl Try.underlying23 info35 rfl (by decide) (by omega) v43 [] s.L AL s.L.length cl (fun q => P q ∧ q < W.heap.size ∨ W.heap.size + 3 ≤ q) (fun k => (fun q => P q ∧ q < W.heap.size ∨ W.heap.size + 3 ≤ q) k ∧ some k ≠ v43.ownBlock) rfl rfl HN43.out (Kd.F_mono (Kd.F_below HL9.out HB10.out) (fun q hq => ⟨.inl hq, fun e_ => Nat.lt_irrefl _ (Nat.lt_of_lt_of_le (Nat.lt_of_lt_of_le hq.2 HW9.out) (Kd.N_base HN43.out q e_.symm))⟩)) (fun _ hk => hk) (fun q hq => HFR.out q (Nat.le_trans HB10.out.size hq)) HB10.out HB10.out.size (by have := HLL.out; simp only [List.length_nil]; omega) ?_
          intro v46 w11 hn46 hb11 hg11 hat11; rw [List.nil_append] at hn46; have HN46 := Aside0.mk hn46; have HB11 := Aside0.mk hb11; clear hn46 hb11 hg11 hat11
          refine hK.out _ _ ⟨pw_cell_below HB11.out y0, pw_cell_below HB11.out y1, pw_cell_below HB11.out y2, pw_cell_below HB11.out y3, pw_cell_below HB11.out y4, pw_cell_below HB11.out y5⟩ (fun hHeld => ?_)
          clear hK K
          refine norm_ (a' := ?_) ?_ ?_
          rotate_left
          · show Act.put _ (some 53) _ = _
            simp only [Act.put, List.setIfInBounds_toArray, List.set_cons_zero, List.set_cons_succ, i64_w, i32_w]
            rfl
          refine one_ (i := 5) (N := some 55) #[true, true, true, true, true, true, false, true, true, false, false, false] rfl rfl (by kernel_rfl) (by decide) (fun K hK => ?_)
          refine Kd.N_lit_step kE (w0 := w9) w9.heap.size TE ?hg (N' := 55) ?hd (xs := ([e] : List Ent)) (inner := [.int .i64 e.f0, .slice Ae e.f1.length ce]) (ok := (fun q => (fun q => P q ∧ q < W.heap.size ∨ W.heap.size + 3 ≤ q) q ∧ some q ≠ v46.ownBlock)) (okp := fun q => P q ∧ q < W.heap.size) ?hr ?hp (fun q hq => ⟨.inl hq, fun e_ => Nat.lt_irrefl _ (Nat.lt_of_lt_of_le (Nat.lt_of_lt_of_le hq.2 HW9.out) (Kd.N_base HN46.out q e_.symm))⟩) ⟨HFR.out _ HB11.out.size, fun e_ => Nat.lt_irrefl _ (Kd.N_lt HN46.out _ e_.symm)⟩ HB11.out HB11.out.size (by simp) ?_; (case hd => rfl); (case hg => rfl); (case hr => first | (go_simp; done) | (go_simp; rfl)); (case hp => exact Reps.c2 (show Kd.FK kE _ _ e [.int .i64 e.f0, .slice Ae e.f1.length ce] from mk_EF _ _ _ HCE.out (Kd.F_below HE9.out HB11.out)) (Reps.none _ _))
          intro v48 w12 hn48 hb12 hg12 hat12; have HN48 := Aside0.mk hn48; have HB12 := Aside0.mk hb12; have HN46b := Aside0.mk (Kd.N_grown HN46.out hg12 (fun _ _ => by simp)); clear hn48 hb12 hg12 hat12
          refine hK.out _ _ ⟨pw_cell_below HB12.out y0, pw_cell_below HB12.out y1, pw_cell_below HB12.out y2, pw_cell_below HB12.out y3, pw_cell_below HB12.out y4, pw_cell_below HB12.out y5⟩ (fun hHeld => ?_)
          clear hK K
          refine norm_ (a' := ?_) ?_ ?_
          rotate_left
          · show Act.put _ (some 55) _ = _
            simp only [Act.put, List.setIfInBounds_toArray, List.set_cons_zero, List.set_cons_succ, i64_w, i32_w]
            rfl
          exact norm_ (by simp only [putAll, Act.put, List.setIfInBounds_toArray, List.set_cons_zero, List.set_cons_succ]) (hCont (v43, v46, v48) _ ⟨hHeld, HN46b.out, HN48.out, HB12.out⟩)
        · refine Kd.N_lit_step kE (w0 := w9) w9.heap.size TE ?hg (N' := 55) ?hd (xs := ([e] : List Ent)) (inner := [.int .i64 e.f0, .slice Ae e.f1.length ce]) (ok := (fun q => (fun q => P q ∧ q < W.heap.size ∨ W.heap.size + 3 ≤ q) q ∧ some q ≠ v43.ownBlock)) (okp := fun q => P q ∧ q < W.heap.size) ?hr ?hp (fun q hq => ⟨.inl hq, fun e_ => Nat.lt_irrefl _ (Nat.lt_of_lt_of_le (Nat.lt_of_lt_of_le hq.2 HW9.out) (Kd.N_base HN43.out q e_.symm))⟩) ⟨HFR.out _ HB10.out.size, fun e_ => Nat.lt_irrefl _ (Kd.N_lt HN43.out _ e_.symm)⟩ HB10.out HB10.out.size (by simp) ?_; (case hd => rfl); (case hg => rfl); (case hr => first | (go_simp; done) | (go_simp; rfl)); (case hp => exact Reps.c2 (show Kd.FK kE _ _ e [.int .i64 e.f0, .slice Ae e.f1.length ce] from mk_EF _ _ _ HCE.out (Kd.F_below HE9.out HB10.out)) (Reps.none _ _))
          intro v48 w11 hn48 hb11 hg11 hat11; have HN48 := Aside0.mk hn48; have HB11 := Aside0.mk hb11; have HN43b := Aside0.mk (Kd.N_grown HN43.out hg11 (fun _ _ => by simp)); clear hn48 hb11 hg11 hat11
          refine hK.out _ _ ⟨pw_cell_below HB11.out y0, pw_cell_below HB11.out y1, pw_cell_below HB11.out y2, pw_cell_below HB11.out y3, pw_cell_below HB11.out y4, pw_cell_below HB11.out y5⟩ (fun hHeld => ?_)
          clear hK K
          refine norm_ (a' := ?_) ?_ ?_
          rotate_left
          · show Act.put _ (some 55) _ = _
            simp only [Act.put, List.setIfInBounds_toArray, List.set_cons_zero, List.set_cons_succ, i64_w, i32_w]
            rfl
          refine one_ (i := 3) (N := some 53) #[true, true, true, true, true, true, false, true, true, false, false, false] rfl rfl (by kernel_rfl) (by decide) (fun K hK => ?_)
          refine Kd.N_append_rows_step kE (w0 := w9) w9.heap.size rfl (.tmp 50) (.tmp 52) 23 TE (.agg #[(.int .i64 0), (.slice none 0 0)]) 32 rfl Try.underlying23 info35 rfl (by decide) (by omega) v43 [] s.L AL s.L.length cl (fun q => P q ∧ q < W.heap.size ∨ W.heap.size + 3 ≤ q) (fun k => (fun q => P q ∧ q < W.heap.size ∨ W.heap.size + 3 ≤ q) k ∧ some k ≠ v43.ownBlock) rfl rfl HN43b.out (Kd.F_mono (Kd.F_below HL9.out HB11.out) (fun q hq => ⟨.inl hq, fun e_ => Nat.lt_irrefl _ (Nat.lt_of_lt_of_le (Nat.lt_of_lt_of_le hq.2 HW9.out) (Kd.N_base HN43b.out q e_.symm))⟩)) (fun _ hk => hk) (fun q hq => HFR.out q (Nat.le_trans HB11.out.size hq)) HB11.out HB11.out.size (by have := HLL.out; simp only [List.length_nil]; omega) ?_
          intro v46 w12 hn46 hb12 hg12 hat12; rw [List.nil_append] at hn46; have HN46 := Aside0.mk hn46; have HB12 := Aside0.mk hb12; have HN48b := Aside0.mk (Kd.N_after HN48.out hg12 hat12); clear hn46 hb12 hg12 hat12
          refine hK.out _ _ ⟨pw_cell_below HB12.out y0, pw_cell_below HB12.out y1, pw_cell_below HB12.out y2, pw_cell_below HB12.out y3, pw_cell_below HB12.out y4, pw_cell_below HB12.out y5⟩ (fun hHeld => ?_)
          clear hK K
          refine norm_ (a' := ?_) ?_ ?_
          rotate_left
          · show Act.put _ (some 53) _ = _
            simp only [Act.put, List.setIfInBounds_toArray, List.set_cons_zero, List.set_cons_succ, i64_w, i32_w]
            rfl
          exact norm_ (by simp only [putAll, Act.put, List.setIfInBounds_toArray, List.set_cons_zero, List.set_cons_succ]) (hCont (v43, v46, v48) _ ⟨hHeld, HN46.out, HN48b.out, HB12.out⟩)
      · refine Kd.N_lit_step kE (w0 := w9) w9.heap.size TE ?hg (N' := 55) ?hd (xs := ([e] : List Ent)) (inner := [.int .i64 e.f0, .slice Ae e.f1.length ce]) (ok := (fun q => P q ∧ q < W.heap.size ∨ W.heap.size + 3 ≤ q)) (okp := fun q => P q ∧ q < W.heap.size) ?hr ?hp (fun q hq => .inl hq) (HFR.out _ HB9a.out.size) HB9a.out HB9a.out.size (by simp) ?_; (case hd => rfl); (case hg => rfl); (case hr => first | (go_simp; done) | (go_simp; rfl)); (case hp => exact Reps.c2 (show Kd.FK kE _ _ e [.int .i64 e.f0, .slice Ae e.f1.length ce] from mk_EF _ _ _ HCE.out (Kd.F_below HE9.out HB9a.out)) (Reps.none _ _))
        intro v48 w10 hn48 hb10 hg10 hat10; have HN48a := Aside0.mk hn48; have HB10 := Aside0.mk hb10; clear hn48 hb10 hg10 hat10
        refine hK.out _ _ ⟨pw_cell_below HB10.out y0, pw_cell_below HB10.out y1, pw_cell_below HB10.out y2, pw_cell_below HB10.out y3, pw_cell_below HB10.out y4, pw_cell_below HB10.out y5⟩ (fun hHeld => ?_)
        clear hK K
        refine norm_ (a' := ?_) ?_ ?_
        rotate_left
        · show Act.put _ (some 55) _ = _
          simp only [Act.put, List.setIfInBounds_toArray, List.set_cons_zero, List.set_cons_succ, i64_w, i32_w]
          rfl
        refine one_ (i := 0) (N := some 50) #[true, true, true, false, true, true, false, true, true, false, false, false] rfl rfl (by kernel_rfl) (by decide) (fun K hK => ?_)
        refine Kd.N_lit_step kE (w0 := w9) w9.heap.size TE ?hg (N' := 50) ?hd (xs := ([] : List Ent)) (inner := []) (ok := (fun q => P q ∧ q < W.heap.size ∨ W.heap.size + 3 ≤ q)) (okp := (fun q => P q ∧ q < W.heap.size ∨ W.heap.size + 3 ≤ q)) ?hr ?hp (fun _ hk => hk) (HFR.out _ HB10.out.size) HB10.out HB10.out.size (by simp) ?_; (case hd => rfl); (case hg => rfl); (case hr => first | (go_simp; done) | (go_simp; rfl)); (case hp => exact (Reps.none _ _))
        intro v43 w11 hn43 hb11 hg11 hat11; have HN43b := Aside0.mk hn43; have HB11 := Aside0.mk hb11; have HN48 := Aside0.mk (Kd.N_mono (ok' := (fun q => (fun q => P q ∧ q < W.heap.size ∨ W.heap.size + 3 ≤ q) q ∧ some q ≠ v43.ownBlock)) (Kd.N_grown (Kd.N_bound HN48a.out) hg11 (fun _ _ => by simp)) (fun q hq => ⟨hq.1, fun e_ => (by obtain ⟨b_, hb1_, hb2_⟩ := hat11; rw [hb1_] at e_; have e2_ := Option.some.inj e_; have := hq.2; omega)⟩)); clear hn43 hb11 hg11 hat11
        refine hK.out _ _ ⟨pw_cell_below HB11.out y0, pw_cell_below HB11.out y1, pw_cell_below HB11.out y2, pw_cell_below HB11.out y3, pw_cell_below HB11.out y4, pw_cell_below HB11.out y5⟩ (fun hHeld => ?_)
        clear hK K
        refine norm_ (a' := ?_) ?_ ?_
        rotate_left
        · show Act.put _ (some 50) _ = _
          simp only [Act.put, List.setIfInBounds_toArray, List.set_cons_zero, List.set_cons_succ, i64_w, i32_w]
          rfl
        refine one_ (i := 3) (N := some 53) #[true, true, true, true, true, true, false, true, true, false, false, false] rfl rfl (by kernel_rfl) (by decide) (fun K hK => ?_)
        refine Kd.N_append_rows_step kE (w0 := w9) w9.heap.size rfl (.tmp 50) (.tmp 52) 23 TE (.agg #[(.int .i64 0), (.slice none 0 0)]) 32 rfl Try.underlying23 info35 rfl (by decide) (by omega) v43 [] s.L AL s.L.length cl (fun q => P q ∧ q < W.heap.size ∨ W.heap.size + 3 ≤ q) (fun k => (fun q => P q ∧ q < W.heap.size ∨ W.heap.size + 3 ≤ q) k ∧ some k ≠ v43.ownBlock) rfl rfl HN43b.out (Kd.F_mono (Kd.F_below HL9.out HB11.out) (fun q hq => ⟨.inl hq, fun e_ => Nat.lt_irrefl _ (Nat.lt_of_lt_of_le (Nat.lt_of_lt_of_le hq.2 HW9.out) (Kd.N_base HN43b.out q e_.symm))⟩)) (fun _ hk => hk) (fun q hq => HFR.out q (Nat.le_trans HB11.out.size hq)) HB11.out HB11.out.size (by have := HLL.out; simp only [List.length_nil]; omega) ?_
        intro v46 w12 hn46 hb12 hg12 hat12; rw [List.nil_append] at hn46; have HN46 := Aside0.mk hn46; have HB12 := Aside0.mk hb12; have HN48b := Aside0.mk (Kd.N_after HN48.out hg12 hat12); clear hn46 hb12 hg12 hat12
        refine hK.out _ _ ⟨pw_cell_below HB12.out y0, pw_cell_below HB12.out y1, pw_cell_below HB12.out y2, pw_cell_below HB12.out y3, pw_cell_below HB12.out y4, pw_cell_below HB12.out y5⟩ (fun hHeld => ?_)
        clear hK K
        refine norm_ (a' := ?_) ?_ ?_
        rotate_left
        · show Act.put _ (some 53) _ = _
          simp only [Act.put, List.setIfInBounds_toArray, List.set_cons_zero, List.set_cons_succ, i64_w, i32_w]
          rfl
        exact norm_ (by simp only [putAll, Act.put, List.setIfInBounds_toArray, List.set_cons_zero, List.set_cons_succ]) (hCont (v43, v46, v48) _ ⟨hHeld, HN46.out, HN48b.out, HB12.out⟩)
    rintro ⟨v43, v46, v48⟩ w13 ⟨hHeld, hn46, hn48, hb13⟩
    have HB13 := Aside0.mk hb13
    have HN46 := Aside0.mk hn46
    have HN48 := Aside0.mk hn48
    clear hn46 hn48 hb13
    obtain ⟨A48, c48, e48⟩ := Kd.N_slice HN48.out
    replace e48 : v48 = .slice A48 1 c48 := e48
    subst e48
    refine norm_ (a' := ?_) ?_ ?_
    rotate_left
    · simp only [putAll, Act.put, List.setIfInBounds_toArray, List.set_cons_zero, List.set_cons_succ]
      rfl
    refine one_ (i := 6) (N := some 56) #[true, true, true, true, true, true, true, true, true, false, false, false] rfl rfl (by kernel_rfl) (by decide) (fun K hK => ?_)
    refine Kd.N_append_rows_step kE (w0 := w9) w9.heap.size rfl (.tmp 53) (.tmp 55) 23 TE (.agg #[(.int .i64 0), (.slice none 0 0)]) 32 rfl Try.underlying23 info35 rfl (by decide) (by omega) v46 s.L [e] A48 1 c48 (fun q => P q ∧ q < W.heap.size ∨ W.heap.size + 3 ≤ q) (fun k => (fun q => P q ∧ q < W.heap.size ∨ W.heap.size + 3 ≤ q) k ∧ some k ≠ v46.ownBlock) rfl rfl HN46.out (Kd.N_F HN48.out) (fun _ hk => hk) (fun q hq => HFR.out q (Nat.le_trans HB13.out.size hq)) HB13.out HB13.out.size (by have := HLL.out; omega) ?_
    intro v49 w14 hn49 hb14 hg14 hat14; rw [← HL2.out] at hn49; have HN49 := Aside0.mk hn49; have HB14 := Aside0.mk hb14; clear hn49 hb14 hg14 hat14
    obtain ⟨A49, c49, e49⟩ := Kd.N_slice HN49.out
    subst e49
    refine hK.out _ _ ⟨pw_cell_below HB14.out y0, pw_cell_below HB14.out y1, pw_cell_below HB14.out y2, pw_cell_below HB14.out y3, pw_cell_below HB14.out y4, pw_cell_below HB14.out y5⟩ (fun hHeld => ?_)
    clear hK K
    refine norm_ (a' := ?_) ?_ ?_
    rotate_left
    · show Act.put _ (some 56) _ = _
      simp only [Act.put, List.setIfInBounds_toArray, List.set_cons_zero, List.set_cons_succ, i64_w, i32_w]
      rfl
    refine pure_ (i := 9) (N := some 59) (v := ?_) (a' := ?_) #[true, true, true, true, true, true, true, true, true, true, false, false] rfl rfl (by kernel_rfl) (fun _ _ _ h => h) (Or.inl ⟨by rfl, ?_⟩) ?_ ?_
    rotate_left
    · intro w'
      go_simp
      with_reducible rfl
    rotate_left
    · simp only [Act.put, List.setIfInBounds_toArray, List.set_cons_zero, List.set_cons_succ, i64_w, i32_w]
      rfl
    have k6 := blk_below K69.out HB14.out
    have qu0 := (blk_cell k6 0).trans (show _ = some (.slice none 0 0) from rfl)
    have qf0 := blk_frozen k6 0
    have q0 := blk_put k6 0 (.slice A49 L2.length c49) rfl
    have qu1 := (blk_cell q0 1).trans (show _ = some (.slice none 0 0) from rfl)
    have qf1 := blk_frozen q0 1
    have q1 := blk_put q0 1 (.slice A5 wt.length c5) rfl
    have qu2 := (blk_cell q1 2).trans (show _ = some (.int .i64 0) from rfl)
    have qf2 := blk_frozen q1 2
    have q2 := blk_put q1 2 (.int .i64 s.room) rfl
    have qu3 := (blk_cell q2 3).trans (show _ = some (.int .i64 0) from rfl)
    have qf3 := blk_frozen q2 3
    have q3 := blk_put q2 3 (.int .i64 s.sure) rfl
    have qu4 := (blk_cell q3 4).trans (show _ = some (.slice none 0 0) from rfl)
    have qf4 := blk_frozen q3 4
    have q4 := blk_put q3 4 (.slice A7 b9.length c7) rfl
    have HQ := Aside0.mk q4
    clear k6 q0 q1 q2 q3 q4
    refine last_ (i := 10) (N := none) #[true, true, true, true, true, true, true, true, true, true, true, false] rfl rfl (by kernel_rfl) (by decide) (fun K hK => ?_)
    refine skip_ (w1 := ?_) (by rfl) rfl ?_ ?_
    rotate_left
    · go_simp
      rfl
    refine hK.out _ _ ?_
    clear hK K
    refine last_ (i := 11) (N := some 7) #[true, true, true, true, true, true, true, true, true, true, true, true] rfl rfl (by kernel_rfl) (by decide) (fun K hK => ?_)
    refine value_ (v := .int .i64 0) (w1 := ?_) (by rfl) rfl (by go_simp <;> rfl) ?_
    refine hK.out _ _ ?_
    clear hK K
    refine norm_ (a' := ?_) ?_ ?_
    rotate_left
    · show Act.put _ (some 7) _ = _
      simp only [Act.put, List.setIfInBounds_toArray, List.set_cons_zero, List.set_cons_succ, i64_w, i32_w]
      rfl
    refine done_ (by kernel_rfl) ?_
    go_wp2
    refine bodyPost_ret (results_ct rfl _ _ (W.heap.size + 2) TRJ #[.slice A49 L2.length c49, .slice A5 wt.length c5, .int .i64 s.room, .int .i64 s.sure, .slice A7 b9.length c7] (0, 0) _ rfl HQ.out Try.underlying46 rfl (by kernel_rfl)) rfl ?_
    rw [HR.out]
    have hke : Kept w14 (((((w14.setCell ⟨W.heap.size + 2, 0, none⟩ (.slice A49 L2.length c49)).setCell ⟨W.heap.size + 2, 1, none⟩ (.slice A5 wt.length c5)).setCell ⟨W.heap.size + 2, 2, none⟩ (.int .i64 s.room)).setCell ⟨W.heap.size + 2, 3, none⟩ (.int .i64 s.sure)).setCell ⟨W.heap.size + 2, 4, none⟩ (.slice A7 b9.length c7)) (fun q => q = W.heap.size + 2) := Kept.setCell (S := fun q => q = W.heap.size + 2) (p := ⟨W.heap.size + 2, 4, none⟩) (Kept.setCell (S := fun q => q = W.heap.size + 2) (p := ⟨W.heap.size + 2, 3, none⟩) (Kept.setCell (S := fun q => q = W.heap.size + 2) (p := ⟨W.heap.size + 2, 2, none⟩) (Kept.setCell (S := fun q => q = W.heap.size + 2) (p := ⟨W.heap.size + 2, 1, none⟩) (Kept.setCell (S := fun q => q = W.heap.size + 2) (p := ⟨W.heap.size + 2, 0, none⟩) (Kept.refl _ _) (.inl rfl) _) (.inl rfl) _) (.inl rfl) _) (.inl rfl) _) (.inl rfl) _
    have hbe : Below W.heap.size W (((((w14.setCell ⟨W.heap.size + 2, 0, none⟩ (.slice A49 L2.length c49)).setCell ⟨W.heap.size + 2, 1, none⟩ (.slice A5 wt.length c5)).setCell ⟨W.heap.size + 2, 2, none⟩ (.int .i64 s.room)).setCell ⟨W.heap.size + 2, 3, none⟩ (.int .i64 s.sure)).setCell ⟨W.heap.size + 2, 4, none⟩ (.slice A7 b9.length c7)) := below_set (below_set (below_set (below_set (below_set (HB09.out.trans (HB14.out.mono HB09.out.size)) (Nat.le_add_right _ 2)) (Nat.le_add_right _ 2)) (Nat.le_add_right _ 2)) (Nat.le_add_right _ 2)) (Nat.le_add_right _ 2)
    have h9 := HS9.out
    refine ⟨A49, c49, A5, c5, A7, c7, rfl, ⟨⟨(Kd.N_reads' HN49.out).2.1, Kd.F_mono (Kd.F_kept (Kd.N_F HN49.out) hke (fun q hq e_ => ?_)) (fun q hq => ?_)⟩, ⟨HT9.out.1, Kd.F_mono (Kd.F_kept (Kd.F_below HT9.out.2 (HB14.out)) hke (fun q hq e_ => ?_)) (fun q hq => ?_)⟩, ⟨HB79.out.1, Kd.F_mono (Kd.F_kept (Kd.F_below HB79.out.2 HB14.out) hke (fun q hq e_ => ?_)) (fun q hq => ?_)⟩⟩, hbe⟩
    · rcases hq with hq | hq <;> (have h3 : q = W.heap.size + 2 := e_; omega)
    · rcases hq with hq | hq
      · exact .inl hq.1
      · exact .inr (by omega)
    · have h3 : q = W.heap.size + 2 := e_
      have h4 : W.heap.size + 3 ≤ q := hq
      omega
    · exact .inr (by have h4 : W.heap.size + 3 ≤ q := hq; omega)
    · rcases hq with hq | hq <;> (have h3 : q = W.heap.size + 2 := e_; omega)
    · rcases hq with hq | hq
      · exact .inl hq.1
      · exact .inr (by omega)
end Go.Proofs.Ytogjnipojakfjaa.JJour

/- The reference of the journal: its Do; its walk, by contents. -/
namespace Go.Proofs.Ytogjnipojakfjaa.JJour
open Go.RowKit Go.Proofs.Ytogjnipojakfjaa.PJd Go.Proofs.YtogjnipojakfjaaW.PrintWords Go.Proofs.YtogjnipojakfjaaW.PrintLast Go.Proofs.YtogjnipojakfjaaW.PrintMore
open LSame (Byt)
open LChain (msgS tagS zeroT)
open DDev (Dev dev_below dev_kept dev_drewN dev_mono T8 TD heldN)
set_option linter.unusedVariables false
set_option linter.unusedSimpArgs false
abbrev TRO : Nat := 56
theorem rc_end {w we : World} {P : Nat → Prop} {a : Nat} {s : St} {AL AT AB : Option Addr} {cl ct cb : Nat} (h : RC w (fun q => P q ∧ q < a ∨ a + 3 ≤ q) s AL cl AT ct AB cb) (hk : Kept w we (fun q => q = a + 2)) : RC we (fun q => P q ∨ a ≤ q) s AL cl AT ct AB cb := by
  have h1 : ∀ q, (P q ∧ q < a ∨ a + 3 ≤ q) → ¬ q = a + 2 := fun q hq e => by rcases hq with hq | hq <;> omega
  have h2 : ∀ q, (P q ∧ q < a ∨ a + 3 ≤ q) → P q ∨ a ≤ q := fun q hq => hq.imp (fun h => h.1) (fun h => by omega)
  exact ⟨⟨h.l.1, Kd.F_mono (Kd.F_kept h.l.2 hk h1) h2⟩, ⟨h.t.1, Kd.F_mono (Kd.F_kept h.t.2 hk h1) h2⟩, ⟨h.b.1, Kd.F_mono (Kd.F_kept h.b.2 hk h1) h2⟩⟩
theorem rc_below {w we : World} {P : Nat → Prop} {s : St} {AL AT AB : Option Addr} {cl ct cb : Nat} (h : RC w P s AL cl AT ct AB cb) (hb : Below w.heap.size w we) : RC we P s AL cl AT ct AB cb :=
  ⟨⟨h.l.1, Kd.F_below h.l.2 hb⟩, ⟨h.t.1, Kd.F_below h.t.2 hb⟩, ⟨h.b.1, Kd.F_below h.b.2 hb⟩⟩
theorem rc_mono {w : World} {P P' : Nat → Prop} {s : St} {AL AT AB : Option Addr} {cl ct cb : Nat} (h : RC w P s AL cl AT ct AB cb) (hp : ∀ q, P q → P' q) : RC w P' s AL cl AT ct AB cb :=
  ⟨⟨h.l.1, Kd.F_mono h.l.2 hp⟩, ⟨h.t.1, Kd.F_mono h.t.2 hp⟩, ⟨h.b.1, Kd.F_mono h.b.2 hp⟩⟩
theorem rc_bound {w : World} {P : Nat → Prop} {s : St} {AL AT AB : Option Addr} {cl ct cb : Nat} (h : RC w P s AL cl AT ct AB cb) : RC w (fun q => P q ∧ q < w.heap.size) s AL cl AT ct AB cb :=
  ⟨⟨h.l.1, Kd.F_bound h.l.2⟩, ⟨h.t.1, Kd.F_bound h.t.2⟩, ⟨h.b.1, Kd.F_bound h.b.2⟩⟩
theorem rc_keptJ {w we : World} {P : Nat → Prop} {a : Nat} {s : St} {u : Int} {AL AT AB : Option Addr} {cl ct cb : Nat} (h : RC w (fun q => P q ∧ q < a) s AL cl AT ct AB cb) (hk : Kept w we (fun q => q = a)) : RC we (fun q => P q ∧ q < a ∨ a + 3 ≤ q) { s with sure := u } AL cl AT ct AB cb := by
  have h1 : ∀ q, (P q ∧ q < a) → ¬ q = a := fun q hq e => by omega
  exact ⟨⟨h.l.1, Kd.F_mono (Kd.F_kept h.l.2 hk h1) (fun q hq => .inl hq)⟩, ⟨h.t.1, Kd.F_mono (Kd.F_kept h.t.2 hk h1) (fun q hq => .inl hq)⟩, ⟨h.b.1, Kd.F_mono (Kd.F_kept h.b.2 hk h1) (fun q hq => .inl hq)⟩⟩
theorem rc_open {W3 w5 : World} {P : Nat → Prop} {a b : Nat} {s : St} {AL AT AB : Option Addr} {cl ct cb : Nat} (h3 : W3.heap.size = a + 3) (h0 : s.L.length ≤ cl ∧ Kd.F kE w5 (fun q => b ≤ q) AL s.L.length s.L) (h1 : s.tag.length ≤ ct ∧ Kd.F (Kd.int .u8) w5 (fun q => b ≤ q) AT s.tag.length s.tag) (h2 : s.bs.length ≤ cb ∧ Kd.F (Kd.int .u8) w5 (fun q => P q ∧ q < a) AB s.bs.length s.bs) (h4 : W3.heap.size ≤ b) :
    RC w5 (fun q => P q ∧ q < a ∨ a + 3 ≤ q) s AL cl AT ct AB cb :=
  ⟨⟨h0.1, Kd.F_mono h0.2 (fun q hq => .inr (by have h5 : b ≤ q := hq; omega))⟩, ⟨h1.1, Kd.F_mono h1.2 (fun q hq => .inr (by have h5 : b ≤ q := hq; omega))⟩, ⟨h2.1, Kd.F_mono h2.2 (fun q hq => .inl hq)⟩⟩
theorem rc_open2 {W3 w5 : World} {P : Nat → Prop} {a b : Nat} {s : St} {AL AT AB : Option Addr} {cl ct cb : Nat} (h3 : W3.heap.size = a + 3) (h0 : s.L.length ≤ cl ∧ Kd.F kE w5 (fun q => b ≤ q) AL s.L.length s.L) (h1 : s.tag.length ≤ ct ∧ Kd.F (Kd.int .u8) w5 (fun q => b ≤ q) AT s.tag.length s.tag) (h2 : s.bs.length ≤ cb ∧ Kd.F (Kd.int .u8) w5 (fun q => P q ∧ q < a ∨ a + 3 ≤ q) AB s.bs.length s.bs) (h4 : W3.heap.size ≤ b) :
    RC w5 (fun q => P q ∧ q < a ∨ a + 3 ≤ q) s AL cl AT ct AB cb :=
  ⟨⟨h0.1, Kd.F_mono h0.2 (fun q hq => .inr (by have h5 : b ≤ q := hq; omega))⟩, ⟨h1.1, Kd.F_mono h1.2 (fun q hq => .inr (by have h5 : b ≤ q := hq; omega))⟩, h2⟩
theorem ropen_n (key : List Int) (Ak : Option Addr) (ck : Nat) (room sure : Int) (bs : List Int) (m : Nat) (hm : m = bs.length) (AB : Option Addr) (cb : Nat) (P : Nat → Prop) (W : World) (hck : key.length ≤ ck) (hK : Kd.C (Kd.int .u8) W Ak key.length key) (hcb : m ≤ cb) (hB : Kd.F (Kd.int .u8) W P AB bs.length bs)
    (hBb : Byt bs) (hl : bs.length ≤ 65536) (hk : Byt key) (hkl : key.length ≤ 1000) (hsu : 0 ≤ sure) (s : St) (hss : s = openS key room sure bs) :
    Calls Try.prog 21 #[.slice Ak key.length ck, .agg #[.int .i64 room, .int .i64 sure, .slice AB m cb]] W fun x w' => RJ W w' P s x := by
  subst hm
  exact ropen.calls key Ak ck room sure bs AB cb P W hck hK hcb hB hBb hl hk hkl hsu s hss
/-- what is done to a journal -/
noncomputable def doS (s : St) (k : Int) (e : Ent) (n : Int) (y : List Int) : Int × St := open Classical in
  if k = 0 then appS s e else if k = 1 then (0, { s with sure := (s.bs.length : Int) })
  else if k = 2 then (0, openS s.key s.room ((s.sure + heldN n (s.bs.length - s.sure)).toNat : Int) (s.bs.take (s.sure + heldN n (s.bs.length - s.sure)).toNat))
  else if k = 3 then (0, openS s.key s.room s.sure (appB s.room s.bs y).2) else (0, s)
set_option maxHeartbeats 32000000 in
set_option maxRecDepth 100000 in
theorem rdo (s : St) (hG : Good s) (Ak : Option Addr) (ck : Nat) (k : Int) (e : Ent) (heb : Byt e.f1) (n : Int) (y : List Int) (hyb : Byt y) (hyl : y.length ≤ 65536) (Ae Ay : Option Addr) (ce cy : Nat) (AL AT AB : Option Addr) (cl ct cb : Nat) (P : Nat → Prop) (W : World) (hck : s.key.length ≤ ck) (hK : Kd.C (Kd.int .u8) W Ak s.key.length s.key) (hRC : RC W P s AL cl AT ct AB cb) (hce : e.f1.length ≤ ce) (hE : Kd.F (Kd.int .u8) W P Ae e.f1.length e.f1) (hcy : y.length ≤ cy) (hY : Kd.C (Kd.int .u8) W Ay y.length y) :
    Calls Try.prog 29 #[.slice Ak s.key.length ck, .agg #[.slice AL s.L.length cl, .slice AT s.tag.length ct, .int .i64 s.room, .int .i64 s.sure, .slice AB s.bs.length cb], .agg #[.int .i64 k, .int .i64 e.f0, .slice Ae e.f1.length ce, .int .i64 n, .slice Ay y.length cy]] W fun x w' => ∃ AL' cl' AT' ct' AB' cb', x = .returned (.tuple #[.agg #[.slice AL' (doS s k e n y).2.L.length cl', .slice AT' (doS s k e n y).2.tag.length ct', .int .i64 (doS s k e n y).2.room, .int .i64 (doS s k e n y).2.sure, .slice AB' (doS s k e n y).2.bs.length cb'], .int .i64 (doS s k e n y).1]) ∧ RC w' (fun q => P q ∨ W.heap.size ≤ q) (doS s k e n y).2 AL' cl' AT' ct' AB' cb' ∧ Below W.heap.size W w' := by
  obtain ⟨W3, hW3⟩ : ∃ W3 : World, W3 = ((W.alloc (.cells #[.slice AL s.L.length cl, .slice AT s.tag.length ct, .int .i64 s.room, .int .i64 s.sure, .slice AB s.bs.length cb] TRJ)).alloc (.cells #[.int .i64 k, .int .i64 e.f0, .slice Ae e.f1.length ce, .int .i64 n, .slice Ay y.length cy] TRO)).alloc (.cells #[.slice none 0 0, .slice none 0 0, .int .i64 0, .int .i64 0, .slice none 0 0] TRJ) := ⟨_, rfl⟩
  have hb3 : Below W.heap.size W W3 := by rw [hW3]; exact below_alloc (below_alloc (below_alloc (Below.refl _ _) _) _) _
  have hs3 : W3.heap.size = W.heap.size + 3 := by rw [hW3]; simp
  have k4 : W3.heap[W.heap.size]? = some (.cells #[.slice AL s.L.length cl, .slice AT s.tag.length ct, .int .i64 s.room, .int .i64 s.sure, .slice AB s.bs.length cb] TRJ (0, 0)) := by rw [hW3]; exact blk_alloc (blk_alloc (blk_new _ _) _) _
  have k5 : W3.heap[W.heap.size + 1]? = some (.cells #[.int .i64 k, .int .i64 e.f0, .slice Ae e.f1.length ce, .int .i64 n, .slice Ay y.length cy] TRO (0, 0)) := by
    rw [hW3]
    have := blk_alloc (blk_new (W.alloc (.cells #[.slice AL s.L.length cl, .slice AT s.tag.length ct, .int .i64 s.room, .int .i64 s.sure, .slice AB s.bs.length cb] TRJ)) (.cells #[.int .i64 k, .int .i64 e.f0, .slice Ae e.f1.length ce, .int .i64 n, .slice Ay y.length cy] TRO)) (.cells #[.slice none 0 0, .slice none 0 0, .int .i64 0, .int .i64 0, .slice none 0 0] TRJ)
    simpa using this
  have k6 : W3.heap[W.heap.size + 2]? = some (.cells #[.slice none 0 0, .slice none 0 0, .int .i64 0, .int .i64 0, .slice none 0 0] TRJ (0, 0)) := by
    rw [hW3]
    have := blk_new ((W.alloc (.cells #[.slice AL s.L.length cl, .slice AT s.tag.length ct, .int .i64 s.room, .int .i64 s.sure, .slice AB s.bs.length cb] TRJ)).alloc (.cells #[.int .i64 k, .int .i64 e.f0, .slice Ae e.f1.length ce, .int .i64 n, .slice Ay y.length cy] TRO)) (.cells #[.slice none 0 0, .slice none 0 0, .int .i64 0, .int .i64 0, .slice none 0 0] TRJ)
    simpa using this
  have j0 : W3.cell? ⟨W.heap.size, 0, none⟩ = some (.slice AL s.L.length cl) := (blk_cell k4 0).trans rfl
  have j1 : W3.cell? ⟨W.heap.size, 1, none⟩ = some (.slice AT s.tag.length ct) := (blk_cell k4 1).trans rfl
  have j2 : W3.cell? ⟨W.heap.size, 2, none⟩ = some (.int .i64 s.room) := (blk_cell k4 2).trans rfl
  have j3 : W3.cell? ⟨W.heap.size, 3, none⟩ = some (.int .i64 s.sure) := (blk_cell k4 3).trans rfl
  have j4 : W3.cell? ⟨W.heap.size, 4, none⟩ = some (.slice AB s.bs.length cb) := (blk_cell k4 4).trans rfl
  have o0 : W3.cell? ⟨W.heap.size + 1, 0, none⟩ = some (.int .i64 k) := (blk_cell k5 0).trans rfl
  have o1 : W3.cell? ⟨W.heap.size + 1, 1, none⟩ = some (.int .i64 e.f0) := (blk_cell k5 1).trans rfl
  have o2 : W3.cell? ⟨W.heap.size + 1, 2, none⟩ = some (.slice Ae e.f1.length ce) := (blk_cell k5 2).trans rfl
  have o3 : W3.cell? ⟨W.heap.size + 1, 3, none⟩ = some (.int .i64 n) := (blk_cell k5 3).trans rfl
  have o4 : W3.cell? ⟨W.heap.size + 1, 4, none⟩ = some (.slice Ay y.length cy) := (blk_cell k5 4).trans rfl
  have K4 := Aside0.mk k4
  have K5 := Aside0.mk k5
  have K6 := Aside0.mk k6
  have HB03 := Aside0.mk hb3
  have HS3 := Aside0.mk hs3
  have HR0 := Aside0.mk hRC
  have HRC := Aside0.mk (rc_below (rc_bound hRC) hb3)
  have HCE := Aside0.mk (And.intro hce (Kd.F_below (Kd.F_bound hE) hb3))
  have HCY := Aside0.mk (And.intro hcy (Kd.C_below hY hb3))
  have HYB := Aside0.mk (And.intro hyb hyl)
  have HEB := Aside0.mk heb
  have HKC := Aside0.mk (Kd.C_below hK hb3)
  have HCK := Aside0.mk hck
  have HG := Aside0.mk hG
  have hb0 := hG.b0
  have hr1 := hG.r1
  have NE6 : Aside0 (W.heap.size + 2 ≠ W.heap.size) := ⟨by omega⟩
  have HBS : Aside0 (s.bs.length ≤ 65536) := ⟨by omega⟩
  have hu := Try.underlying35
  have hu2 := Try.underlying46
  clear hb3 hs3 k4 k5 hRC hce hE hcy hY hyb hyl heb hK hck hb0 hr1
  by_cases c0 : k = 0
  · subst c0
    obtain ⟨ar, sp, hap⟩ : ∃ ar sp, appS s e = (ar, sp) := ⟨_, _, rfl⟩
    have HAP := Aside0.mk hap
    have HDO : Aside0 (doS s 0 e n y = (ar, sp)) := ⟨by unfold doS; rw [if_pos rfl]; exact hap⟩
    clear hap hG k6
    go_enter Try.func29, Try.ntmps29
    go_upto_region 1 with (fail)
    try simp only [← hW3]
    clear hW3
    go_wp2_with (go_at_call 48; (with_reducible refine (rapp49 s HG.out Ak ck e HEB.out Ae ce AL AT AB cl ct cb (fun q => P q ∧ q < W.heap.size) _ HCK.out (Kd.C_below HKC.out (by with_reducible repeat (first | exact Below.refl _ _ | apply below_alloc | apply below_drew))) (rc_below HRC.out (by with_reducible repeat (first | exact Below.refl _ _ | apply below_alloc | apply below_drew))) HCE.out.1 (Kd.F_below HCE.out.2 (by with_reducible repeat (first | exact Below.refl _ _ | apply below_alloc | apply below_drew)))).mono ?_); rintro x w4 ⟨ALp, clp, ATp, ctp, ABp, cbp, hx, hrc, hb4⟩; (simp only [HAP.out] at hx hrc); subst hx; (have HB4 : Aside0 (Below W3.heap.size W3 w4) := ⟨below_step (by with_reducible repeat (first | exact Below.refl _ _ | apply below_alloc | apply below_drew)) hb4⟩); (have HRD : Aside0 (RC w4 (fun q => P q ∧ q < W.heap.size ∨ W.heap.size + 3 ≤ q) sp ALp clp ATp ctp ABp cbp) := ⟨rc_mono hrc (fun q hq => hq.imp (fun h => h) (fun h => by have h1 := HS3.out; have h2 : W3.heap.size ≤ q := h; omega))⟩); (have kz := blk_below K6.out HB4.out); (have qu0 := (blk_cell kz 0).trans (show _ = some (.slice none 0 0) from rfl)); (have qf0 := blk_frozen kz 0); (have q0 := blk_put kz 0 (.slice ALp sp.L.length clp) rfl); (have qu1 := (blk_cell q0 1).trans (show _ = some (.slice none 0 0) from rfl)); (have qf1 := blk_frozen q0 1); (have q1 := blk_put q0 1 (.slice ATp sp.tag.length ctp) rfl); (have qu2 := (blk_cell q1 2).trans (show _ = some (.int .i64 0) from rfl)); (have qf2 := blk_frozen q1 2); (have q2 := blk_put q1 2 (.int .i64 sp.room) rfl); (have qu3 := (blk_cell q2 3).trans (show _ = some (.int .i64 0) from rfl)); (have qf3 := blk_frozen q2 3); (have q3 := blk_put q2 3 (.int .i64 sp.sure) rfl); (have qu4 := (blk_cell q3 4).trans (show _ = some (.slice none 0 0) from rfl)); (have qf4 := blk_frozen q3 4); (have q4 := blk_put q3 4 (.slice ABp sp.bs.length cbp) rfl); (have HQ := Aside0.mk q4); (clear q0 q1 q2 q3 q4); clear hrc hb4 kz)
    refine bodyPost_ret (results_ct rfl _ _ (W.heap.size + 2) TRJ #[.slice ALp sp.L.length clp, .slice ATp sp.tag.length ctp, .int .i64 sp.room, .int .i64 sp.sure, .slice ABp sp.bs.length cbp] (0, 0) _ rfl HQ.out Try.underlying46 rfl (by kernel_rfl)) rfl ?_
    have hke : Kept w4 (((((w4.setCell ⟨W.heap.size + 2, 0, none⟩ (.slice ALp sp.L.length clp)).setCell ⟨W.heap.size + 2, 1, none⟩ (.slice ATp sp.tag.length ctp)).setCell ⟨W.heap.size + 2, 2, none⟩ (.int .i64 sp.room)).setCell ⟨W.heap.size + 2, 3, none⟩ (.int .i64 sp.sure)).setCell ⟨W.heap.size + 2, 4, none⟩ (.slice ABp sp.bs.length cbp)) (fun q => q = W.heap.size + 2) := Kept.setCell (S := fun q => q = W.heap.size + 2) (p := ⟨W.heap.size + 2, 4, none⟩) (Kept.setCell (S := fun q => q = W.heap.size + 2) (p := ⟨W.heap.size + 2, 3, none⟩) (Kept.setCell (S := fun q => q = W.heap.size + 2) (p := ⟨W.heap.size + 2, 2, none⟩) (Kept.setCell (S := fun q => q = W.heap.size + 2) (p := ⟨W.heap.size + 2, 1, none⟩) (Kept.setCell (S := fun q => q = W.heap.size + 2) (p := ⟨W.heap.size + 2, 0, none⟩) (Kept.refl _ _) (.inl rfl) _) (.inl rfl) _) (.inl rfl) _) (.inl rfl) _) (.inl rfl) _
    have hbe : Below W.heap.size W (((((w4.setCell ⟨W.heap.size + 2, 0, none⟩ (.slice ALp sp.L.length clp)).setCell ⟨W.heap.size + 2, 1, none⟩ (.slice ATp sp.tag.length ctp)).setCell ⟨W.heap.size + 2, 2, none⟩ (.int .i64 sp.room)).setCell ⟨W.heap.size + 2, 3, none⟩ (.int .i64 sp.sure)).setCell ⟨W.heap.size + 2, 4, none⟩ (.slice ABp sp.bs.length cbp)) := below_set (below_set (below_set (below_set (below_set (HB03.out.trans (HB4.out.mono HB03.out.size)) (Nat.le_add_right _ 2)) (Nat.le_add_right _ 2)) (Nat.le_add_right _ 2)) (Nat.le_add_right _ 2)) (Nat.le_add_right _ 2)
    rw [HDO.out]
    exact ⟨_, _, _, _, _, _, rfl, rc_end HRD.out hke, hbe⟩
  have b0 : (k == 0) = false := beq_eq_false_iff_ne.mpr c0
  have b0' : decide (k = 0) = false := decide_eq_false c0
  by_cases c1 : k = 1
  · subst c1
    have HDO : Aside0 (doS s 1 e n y = (0, { s with sure := (s.bs.length : Int) })) := ⟨by unfold doS; rw [if_neg c0, if_pos rfl]⟩
    clear hG k6
    go_enter Try.func29, Try.ntmps29
    go_upto_region 1 with (fail)
    try simp only [← hW3]
    clear hW3
    go_upto_region 5 with (go_at_call 49; (with_reducible refine (rsync s.room s.sure s.bs.length AB cb _).mono ?_); rintro x w4 ⟨rfl, hb4⟩; (have HB4 : Aside0 (Below W3.heap.size W3 w4) := ⟨below_step (by with_reducible repeat (first | exact Below.refl _ _ | apply below_alloc | apply below_drew)) hb4⟩); (have kj := blk_below K4.out HB4.out); (have ru0 := (blk_cell kj 2).trans (show _ = some (.int .i64 s.room) from rfl)); (have rf0 := blk_frozen kj 2); (have r0 := blk_put kj 2 (.int .i64 s.room) rfl); (have ru1 := (blk_cell r0 3).trans (show _ = some (.int .i64 s.sure) from rfl)); (have rf1 := blk_frozen r0 3); (have r1 := blk_put r0 3 (.int .i64 (s.bs.length : Int)) rfl); (have ru2 := (blk_cell r1 4).trans (show _ = some (.slice AB s.bs.length cb) from rfl)); (have rf2 := blk_frozen r1 4); (have r2 := blk_put r1 4 (.slice AB s.bs.length cb) rfl); clear hb4 kj r0 r1 r2)
    obtain ⟨wj, hwj⟩ : ∃ wj : World, wj = (((w4.setCell ⟨W.heap.size, 2, none⟩ (.int .i64 s.room)).setCell ⟨W.heap.size, 3, none⟩ (.int .i64 (s.bs.length : Int))).setCell ⟨W.heap.size, 4, none⟩ (.slice AB s.bs.length cb)) := ⟨_, rfl⟩
    have hkj : Kept w4 wj (fun q => q = W.heap.size) := by rw [hwj]; exact Kept.setCell (S := fun q => q = W.heap.size) (p := ⟨W.heap.size, 4, none⟩) (Kept.setCell (S := fun q => q = W.heap.size) (p := ⟨W.heap.size, 3, none⟩) (Kept.setCell (S := fun q => q = W.heap.size) (p := ⟨W.heap.size, 2, none⟩) (Kept.refl _ _) (.inl rfl) _) (.inl rfl) _) (.inl rfl) _
    have kj : wj.heap[W.heap.size]? = some (.cells #[.slice AL s.L.length cl, .slice AT s.tag.length ct, .int .i64 s.room, .int .i64 (s.bs.length : Int), .slice AB s.bs.length cb] TRJ (0, 0)) := by rw [hwj]; exact blk_put (blk_put (blk_put (blk_below K4.out HB4.out) 2 _ rfl) 3 _ rfl) 4 _ rfl
    have kz : wj.heap[W.heap.size + 2]? = some (.cells #[.slice none 0 0, .slice none 0 0, .int .i64 0, .int .i64 0, .slice none 0 0] TRJ (0, 0)) := by rw [hwj]; exact blk_far (p := ⟨W.heap.size, 4, none⟩) (blk_far (p := ⟨W.heap.size, 3, none⟩) (blk_far (p := ⟨W.heap.size, 2, none⟩) (blk_below K6.out HB4.out) NE6.out _) NE6.out _) NE6.out _
    have hbj : Below W.heap.size W wj := by rw [hwj]; exact below_set (below_set (below_set (HB03.out.trans (HB4.out.mono HB03.out.size)) (Nat.le_refl _)) (Nat.le_refl _)) (Nat.le_refl _)
    have HRD : RC wj (fun q => P q ∧ q < W.heap.size ∨ W.heap.size + 3 ≤ q) { s with sure := (s.bs.length : Int) } AL cl AT ct AB cb := rc_keptJ (rc_below HRC.out HB4.out) hkj
    have oj : wj.cell? ⟨W.heap.size + 1, 0, none⟩ = some (.int .i64 1) := by rw [hwj]; exact (blk_cell (blk_far (p := ⟨W.heap.size, 4, none⟩) (blk_far (p := ⟨W.heap.size, 3, none⟩) (blk_far (p := ⟨W.heap.size, 2, none⟩) (blk_below K5.out HB4.out) (Nat.succ_ne_self _) _) (Nat.succ_ne_self _) _) (Nat.succ_ne_self _) _) 0).trans rfl
    try rw [← hwj]
    clear hwj hkj ru0 ru1 ru2 rf0 rf1 rf2 j0 j1 j2 j3 j4
    have l0 : wj.cell? ⟨W.heap.size, 0, none⟩ = some (.slice AL s.L.length cl) := (blk_cell kj 0).trans rfl
    have l1 : wj.cell? ⟨W.heap.size, 1, none⟩ = some (.slice AT s.tag.length ct) := (blk_cell kj 1).trans rfl
    have l2 : wj.cell? ⟨W.heap.size, 2, none⟩ = some (.int .i64 s.room) := (blk_cell kj 2).trans rfl
    have l3 : wj.cell? ⟨W.heap.size, 3, none⟩ = some (.int .i64 (s.bs.length : Int)) := (blk_cell kj 3).trans rfl
    have l4 : wj.cell? ⟨W.heap.size, 4, none⟩ = some (.slice AB s.bs.length cb) := (blk_cell kj 4).trans rfl
    have qu0 := (blk_cell kz 0).trans (show _ = some (.slice none 0 0) from rfl)
    have qf0 := blk_frozen kz 0
    have q0 := blk_put kz 0 (.slice AL s.L.length cl) rfl
    have qu1 := (blk_cell q0 1).trans (show _ = some (.slice none 0 0) from rfl)
    have qf1 := blk_frozen q0 1
    have q1 := blk_put q0 1 (.slice AT s.tag.length ct) rfl
    have qu2 := (blk_cell q1 2).trans (show _ = some (.int .i64 0) from rfl)
    have qf2 := blk_frozen q1 2
    have q2 := blk_put q1 2 (.int .i64 s.room) rfl
    have qu3 := (blk_cell q2 3).trans (show _ = some (.int .i64 0) from rfl)
    have qf3 := blk_frozen q2 3
    have q3 := blk_put q2 3 (.int .i64 (s.bs.length : Int)) rfl
    have qu4 := (blk_cell q3 4).trans (show _ = some (.slice none 0 0) from rfl)
    have qf4 := blk_frozen q3 4
    have q4 := blk_put q3 4 (.slice AB s.bs.length cb) rfl
    have HQ := Aside0.mk q4
    clear q0 q1 q2 q3 q4
    have HBJ := Aside0.mk hbj
    clear kj kz hbj
    go_wp2
    refine bodyPost_ret (results_ct rfl _ _ (W.heap.size + 2) TRJ #[.slice AL s.L.length cl, .slice AT s.tag.length ct, .int .i64 s.room, .int .i64 (s.bs.length : Int), .slice AB s.bs.length cb] (0, 0) _ rfl HQ.out Try.underlying46 rfl (by kernel_rfl)) rfl ?_
    have hke : Kept wj (((((wj.setCell ⟨W.heap.size + 2, 0, none⟩ (.slice AL s.L.length cl)).setCell ⟨W.heap.size + 2, 1, none⟩ (.slice AT s.tag.length ct)).setCell ⟨W.heap.size + 2, 2, none⟩ (.int .i64 s.room)).setCell ⟨W.heap.size + 2, 3, none⟩ (.int .i64 (s.bs.length : Int))).setCell ⟨W.heap.size + 2, 4, none⟩ (.slice AB s.bs.length cb)) (fun q => q = W.heap.size + 2) := Kept.setCell (S := fun q => q = W.heap.size + 2) (p := ⟨W.heap.size + 2, 4, none⟩) (Kept.setCell (S := fun q => q = W.heap.size + 2) (p := ⟨W.heap.size + 2, 3, none⟩) (Kept.setCell (S := fun q => q = W.heap.size + 2) (p := ⟨W.heap.size + 2, 2, none⟩) (Kept.setCell (S := fun q => q = W.heap.size + 2) (p := ⟨W.heap.size + 2, 1, none⟩) (Kept.setCell (S := fun q => q = W.heap.size + 2) (p := ⟨W.heap.size + 2, 0, none⟩) (Kept.refl _ _) (.inl rfl) _) (.inl rfl) _) (.inl rfl) _) (.inl rfl) _) (.inl rfl) _
    have hbe : Below W.heap.size W (((((wj.setCell ⟨W.heap.size + 2, 0, none⟩ (.slice AL s.L.length cl)).setCell ⟨W.heap.size + 2, 1, none⟩ (.slice AT s.tag.length ct)).setCell ⟨W.heap.size + 2, 2, none⟩ (.int .i64 s.room)).setCell ⟨W.heap.size + 2, 3, none⟩ (.int .i64 (s.bs.length : Int))).setCell ⟨W.heap.size + 2, 4, none⟩ (.slice AB s.bs.length cb)) := below_set (below_set (below_set (below_set (below_set (HBJ.out) (Nat.le_add_right _ 2)) (Nat.le_add_right _ 2)) (Nat.le_add_right _ 2)) (Nat.le_add_right _ 2)) (Nat.le_add_right _ 2)
    rw [HDO.out]
    exact ⟨_, _, _, _, _, _, rfl, rc_end HRD hke, hbe⟩
  have b1 : (k == 1) = false := beq_eq_false_iff_ne.mpr c1
  have b1' : decide (k = 1) = false := decide_eq_false c1
  by_cases c2 : k = 2
  · subst c2
    have hq : 0 ≤ s.sure + heldN n (s.bs.length - s.sure) ∧ s.sure + heldN n (s.bs.length - s.sure) ≤ s.bs.length := by have h1 := hG.s0; have h2 := hG.s1; unfold heldN mn mx; split <;> split <;> omega
    obtain ⟨m, hm⟩ : ∃ m : Nat, s.sure + heldN n (s.bs.length - s.sure) = (m : Int) := ⟨(s.sure + heldN n (s.bs.length - s.sure)).toNat, by omega⟩
    have hmn : m ≤ s.bs.length := by omega
    obtain ⟨sp, hsp⟩ : ∃ sp, sp = openS s.key s.room (m : Int) (s.bs.take m) := ⟨_, rfl⟩
    have HDO : Aside0 (doS s 2 e n y = (0, sp)) := ⟨by unfold doS; rw [if_neg c0, if_neg c1, if_pos rfl, hm, Int.toNat_natCast, ← hsp]⟩
    have hml : (s.bs.take m).length = m := by rw [List.length_take]; omega
    have HM := Aside0.mk (And.intro hm (And.intro hmn hml))
    have HSP := Aside0.mk hsp
    clear hq hm hmn hsp hml hG k6
    go_enter Try.func29, Try.ntmps29
    go_upto_region 1 with (fail)
    try simp only [← hW3]
    clear hW3
    go_wp2_with (first | (go_at_call 21; (with_reducible refine (ropen_n s.key Ak ck s.room (m : Int) (s.bs.take m) m HM.out.2.2.symm AB cb (fun q => P q ∧ q < W.heap.size) _ HCK.out (Kd.C_below HKC.out (below_step HB4.out (by with_reducible repeat (first | exact Below.refl _ _ | apply below_alloc | apply below_drew)))) (Nat.le_trans HM.out.2.1 HR0.out.b.1) (Kd.F_below HTK.out (by with_reducible repeat (first | exact Below.refl _ _ | apply below_alloc | apply below_drew))) (HG.out.bb.take m) (Nat.le_trans (Nat.le_of_eq HM.out.2.2) (Nat.le_trans HM.out.2.1 HBS.out)) HG.out.kb HG.out.kl (Int.natCast_nonneg m) sp HSP.out).mono ?_); rintro x w5 ⟨ALp, clp, ATp, ctp, ABp, cbp, rfl, h0_, h1_, h4_, hb5⟩; (have HB5 : Aside0 (Below W3.heap.size W3 w5) := ⟨below_step (below_step HB4.out (by with_reducible repeat (first | exact Below.refl _ _ | apply below_alloc | apply below_drew))) hb5⟩); (have HRD : Aside0 (RC w5 (fun q => P q ∧ q < W.heap.size ∨ W.heap.size + 3 ≤ q) sp ALp clp ATp ctp ABp cbp) := ⟨rc_open HS3.out h0_ h1_ h4_ (below_step HB4.out (by with_reducible repeat (first | exact Below.refl _ _ | apply below_alloc | apply below_drew))).size⟩); (have kz := blk_below K6.out HB5.out); (have qu0 := (blk_cell kz 0).trans (show _ = some (.slice none 0 0) from rfl)); (have qf0 := blk_frozen kz 0); (have q0 := blk_put kz 0 (.slice ALp sp.L.length clp) rfl); (have qu1 := (blk_cell q0 1).trans (show _ = some (.slice none 0 0) from rfl)); (have qf1 := blk_frozen q0 1); (have q1 := blk_put q0 1 (.slice ATp sp.tag.length ctp) rfl); (have qu2 := (blk_cell q1 2).trans (show _ = some (.int .i64 0) from rfl)); (have qf2 := blk_frozen q1 2); (have q2 := blk_put q1 2 (.int .i64 sp.room) rfl); (have qu3 := (blk_cell q2 3).trans (show _ = some (.int .i64 0) from rfl)); (have qf3 := blk_frozen q2 3); (have q3 := blk_put q2 3 (.int .i64 sp.sure) rfl); (have qu4 := (blk_cell q3 4).trans (show _ = some (.slice none 0 0) from rfl)); (have qf4 := blk_frozen q3 4); (have q4 := blk_put q3 4 (.slice ABp sp.bs.length cbp) rfl); (have HQ := Aside0.mk q4); (clear q0 q1 q2 q3 q4); clear h0_ h1_ h4_ hb5 kz) | (go_at_call 50; (with_reducible refine (rcrash s.room s.sure n s.bs.length m AB cb _ HG.out.s0 HG.out.s1 HBS.out HM.out.1 HR0.out.b.1).mono ?_); rintro x w4 ⟨rfl, hb4⟩; (have HB4 : Aside0 (Below W3.heap.size W3 w4) := ⟨below_step (by with_reducible repeat (first | exact Below.refl _ _ | apply below_alloc | apply below_drew)) hb4⟩); (have HTK : Aside0 (Kd.F (Kd.int .u8) w4 (fun q => P q ∧ q < W.heap.size) AB (s.bs.take m).length (s.bs.take m)) := ⟨Kd.F_below (Kd.F_take HRC.out.b.2 HM.out.2.1) HB4.out⟩); clear hb4))
    refine bodyPost_ret (results_ct rfl _ _ (W.heap.size + 2) TRJ #[.slice ALp sp.L.length clp, .slice ATp sp.tag.length ctp, .int .i64 sp.room, .int .i64 sp.sure, .slice ABp sp.bs.length cbp] (0, 0) _ rfl HQ.out Try.underlying46 rfl (by kernel_rfl)) rfl ?_
    have hke : Kept w5 (((((w5.setCell ⟨W.heap.size + 2, 0, none⟩ (.slice ALp sp.L.length clp)).setCell ⟨W.heap.size + 2, 1, none⟩ (.slice ATp sp.tag.length ctp)).setCell ⟨W.heap.size + 2, 2, none⟩ (.int .i64 sp.room)).setCell ⟨W.heap.size + 2, 3, none⟩ (.int .i64 sp.sure)).setCell ⟨W.heap.size + 2, 4, none⟩ (.slice ABp sp.bs.length cbp)) (fun q => q = W.heap.size + 2) := Kept.setCell (S := fun q => q = W.heap.size + 2) (p := ⟨W.heap.size + 2, 4, none⟩) (Kept.setCell (S := fun q => q = W.heap.size + 2) (p := ⟨W.heap.size + 2, 3, none⟩) (Kept.setCell (S := fun q => q = W.heap.size + 2) (p := ⟨W.heap.size + 2, 2, none⟩) (Kept.setCell (S := fun q => q = W.heap.size + 2) (p := ⟨W.heap.size + 2, 1, none⟩) (Kept.setCell (S := fun q => q = W.heap.size + 2) (p := ⟨W.heap.size + 2, 0, none⟩) (Kept.refl _ _) (.inl rfl) _) (.inl rfl) _) (.inl rfl) _) (.inl rfl) _) (.inl rfl) _
    have hbe : Below W.heap.size W (((((w5.setCell ⟨W.heap.size + 2, 0, none⟩ (.slice ALp sp.L.length clp)).setCell ⟨W.heap.size + 2, 1, none⟩ (.slice ATp sp.tag.length ctp)).setCell ⟨W.heap.size + 2, 2, none⟩ (.int .i64 sp.room)).setCell ⟨W.heap.size + 2, 3, none⟩ (.int .i64 sp.sure)).setCell ⟨W.heap.size + 2, 4, none⟩ (.slice ABp sp.bs.length cbp)) := below_set (below_set (below_set (below_set (below_set (HB03.out.trans (HB5.out.mono HB03.out.size)) (Nat.le_add_right _ 2)) (Nat.le_add_right _ 2)) (Nat.le_add_right _ 2)) (Nat.le_add_right _ 2)) (Nat.le_add_right _ 2)
    rw [HDO.out]
    exact ⟨_, _, _, _, _, _, rfl, rc_end HRD.out hke, hbe⟩
  have b2 : (k == 2) = false := beq_eq_false_iff_ne.mpr c2
  have b2' : decide (k = 2) = false := decide_eq_false c2
  by_cases c3 : k = 3
  · subst c3
    obtain ⟨ar, yb, hab⟩ : ∃ ar yb, appB s.room s.bs y = (ar, yb) := ⟨_, _, rfl⟩
    obtain ⟨sp, hsp⟩ : ∃ sp, sp = openS s.key s.room s.sure yb := ⟨_, rfl⟩
    have HDO : Aside0 (doS s 3 e n y = (0, sp)) := ⟨by unfold doS; rw [if_neg c0, if_neg c1, if_neg c2, if_pos rfl, hab, ← hsp]⟩
    have hyb : Byt yb ∧ yb.length ≤ 65536 := by
      unfold appB at hab
      split at hab
      · obtain ⟨_, rfl⟩ := Prod.mk.inj hab
        exact ⟨hG.bb, HBS.out⟩
      · obtain ⟨_, rfl⟩ := Prod.mk.inj hab
        have := hG.r1
        exact ⟨hG.bb.append HYB.out.1, by rw [List.length_append]; omega⟩
    have HAB := Aside0.mk hab
    have HSP := Aside0.mk hsp
    have HYY := Aside0.mk hyb
    clear hab hsp hyb hG k6
    go_enter Try.func29, Try.ntmps29
    go_upto_region 1 with (fail)
    try simp only [← hW3]
    clear hW3
    go_wp2_with (first | (go_at_call 21; (with_reducible refine (ropen.calls s.key Ak ck s.room s.sure yb A7 c7 (fun q => P q ∧ q < W.heap.size ∨ W.heap.size + 3 ≤ q) _ HCK.out (Kd.C_below HKC.out (below_step HB4.out (by with_reducible repeat (first | exact Below.refl _ _ | apply below_alloc | apply below_drew)))) H7.out.1 (Kd.F_below H7.out.2 (by with_reducible repeat (first | exact Below.refl _ _ | apply below_alloc | apply below_drew))) HYY.out.1 HYY.out.2 HG.out.kb HG.out.kl HG.out.s0 sp HSP.out).mono ?_); rintro x w5 ⟨ALp, clp, ATp, ctp, ABp, cbp, rfl, h0_, h1_, h4_, hb5⟩; (have HB5 : Aside0 (Below W3.heap.size W3 w5) := ⟨below_step (below_step HB4.out (by with_reducible repeat (first | exact Below.refl _ _ | apply below_alloc | apply below_drew))) hb5⟩); (have HRD : Aside0 (RC w5 (fun q => P q ∧ q < W.heap.size ∨ W.heap.size + 3 ≤ q) sp ALp clp ATp ctp ABp cbp) := ⟨rc_open2 HS3.out h0_ h1_ h4_ (below_step HB4.out (by with_reducible repeat (first | exact Below.refl _ _ | apply below_alloc | apply below_drew))).size⟩); (have kz := blk_below K6.out HB5.out); (have qu0 := (blk_cell kz 0).trans (show _ = some (.slice none 0 0) from rfl)); (have qf0 := blk_frozen kz 0); (have q0 := blk_put kz 0 (.slice ALp sp.L.length clp) rfl); (have qu1 := (blk_cell q0 1).trans (show _ = some (.slice none 0 0) from rfl)); (have qf1 := blk_frozen q0 1); (have q1 := blk_put q0 1 (.slice ATp sp.tag.length ctp) rfl); (have qu2 := (blk_cell q1 2).trans (show _ = some (.int .i64 0) from rfl)); (have qf2 := blk_frozen q1 2); (have q2 := blk_put q1 2 (.int .i64 sp.room) rfl); (have qu3 := (blk_cell q2 3).trans (show _ = some (.int .i64 0) from rfl)); (have qf3 := blk_frozen q2 3); (have q3 := blk_put q2 3 (.int .i64 sp.sure) rfl); (have qu4 := (blk_cell q3 4).trans (show _ = some (.slice none 0 0) from rfl)); (have qf4 := blk_frozen q3 4); (have q4 := blk_put q3 4 (.slice ABp sp.bs.length cbp) rfl); (have HQ := Aside0.mk q4); (clear q0 q1 q2 q3 q4); clear h0_ h1_ h4_ hb5 kz) | (go_at_call 18; (with_reducible refine (rapp48 s.room s.sure s.bs y AB Ay cb cy (fun q => P q ∧ q < W.heap.size) _ HR0.out.b.1 (Kd.F_below HRC.out.b.2 (by with_reducible repeat (first | exact Below.refl _ _ | apply below_alloc | apply below_drew))) HCY.out.1 (Kd.C_below HCY.out.2 (by with_reducible repeat (first | exact Below.refl _ _ | apply below_alloc | apply below_drew))) HBS.out (Nat.le_trans HYB.out.2 (by decide))).mono ?_); rintro x w4 ⟨A7, c7, hx, hl7, hf7, hb4⟩; (simp only [HAB.out] at hx hl7 hf7); subst hx; (have HB4 : Aside0 (Below W3.heap.size W3 w4) := ⟨below_step (by with_reducible repeat (first | exact Below.refl _ _ | apply below_alloc | apply below_drew)) hb4⟩); (have H7 : Aside0 (yb.length ≤ c7 ∧ Kd.F (Kd.int .u8) w4 (fun q => P q ∧ q < W.heap.size ∨ W.heap.size + 3 ≤ q) A7 yb.length yb) := ⟨hl7, Kd.F_mono hf7 (fun q hq => hq.imp (fun h => h) (fun h => by have h1 := HS3.out; have h2 : W3.heap.size ≤ q := h; omega))⟩); (have e0 := (blk_cell (blk_new w4 (.cells #[.int .i64 s.room, .int .i64 s.sure, .slice A7 yb.length c7] TRD)) 0).trans (show _ = some (.int .i64 s.room) from rfl)); (have e1 := (blk_cell (blk_new w4 (.cells #[.int .i64 s.room, .int .i64 s.sure, .slice A7 yb.length c7] TRD)) 1).trans (show _ = some (.int .i64 s.sure) from rfl)); (have e2 := (blk_cell (blk_new w4 (.cells #[.int .i64 s.room, .int .i64 s.sure, .slice A7 yb.length c7] TRD)) 2).trans (show _ = some (.slice A7 yb.length c7) from rfl)); clear hl7 hf7 hb4))
    refine bodyPost_ret (results_ct rfl _ _ (W.heap.size + 2) TRJ #[.slice ALp sp.L.length clp, .slice ATp sp.tag.length ctp, .int .i64 sp.room, .int .i64 sp.sure, .slice ABp sp.bs.length cbp] (0, 0) _ rfl HQ.out Try.underlying46 rfl (by kernel_rfl)) rfl ?_
    have hke : Kept w5 (((((w5.setCell ⟨W.heap.size + 2, 0, none⟩ (.slice ALp sp.L.length clp)).setCell ⟨W.heap.size + 2, 1, none⟩ (.slice ATp sp.tag.length ctp)).setCell ⟨W.heap.size + 2, 2, none⟩ (.int .i64 sp.room)).setCell ⟨W.heap.size + 2, 3, none⟩ (.int .i64 sp.sure)).setCell ⟨W.heap.size + 2, 4, none⟩ (.slice ABp sp.bs.length cbp)) (fun q => q = W.heap.size + 2) := Kept.setCell (S := fun q => q = W.heap.size + 2) (p := ⟨W.heap.size + 2, 4, none⟩) (Kept.setCell (S := fun q => q = W.heap.size + 2) (p := ⟨W.heap.size + 2, 3, none⟩) (Kept.setCell (S := fun q => q = W.heap.size + 2) (p := ⟨W.heap.size + 2, 2, none⟩) (Kept.setCell (S := fun q => q = W.heap.size + 2) (p := ⟨W.heap.size + 2, 1, none⟩) (Kept.setCell (S := fun q => q = W.heap.size + 2) (p := ⟨W.heap.size + 2, 0, none⟩) (Kept.refl _ _) (.inl rfl) _) (.inl rfl) _) (.inl rfl) _) (.inl rfl) _) (.inl rfl) _
    have hbe : Below W.heap.size W (((((w5.setCell ⟨W.heap.size + 2, 0, none⟩ (.slice ALp sp.L.length clp)).setCell ⟨W.heap.size + 2, 1, none⟩ (.slice ATp sp.tag.length ctp)).setCell ⟨W.heap.size + 2, 2, none⟩ (.int .i64 sp.room)).setCell ⟨W.heap.size + 2, 3, none⟩ (.int .i64 sp.sure)).setCell ⟨W.heap.size + 2, 4, none⟩ (.slice ABp sp.bs.length cbp)) := below_set (below_set (below_set (below_set (below_set (HB03.out.trans (HB5.out.mono HB03.out.size)) (Nat.le_add_right _ 2)) (Nat.le_add_right _ 2)) (Nat.le_add_right _ 2)) (Nat.le_add_right _ 2)) (Nat.le_add_right _ 2)
    rw [HDO.out]
    exact ⟨_, _, _, _, _, _, rfl, rc_end HRD.out hke, hbe⟩
  have b3 : (k == 3) = false := beq_eq_false_iff_ne.mpr c3
  have b3' : decide (k = 3) = false := decide_eq_false c3
  have HDO : Aside0 (doS s k e n y = (0, s)) := ⟨by unfold doS; rw [if_neg c0, if_neg c1, if_neg c2, if_neg c3]⟩
  have qu0 := (blk_cell k6 0).trans (show _ = some (.slice none 0 0) from rfl)
  have qf0 := blk_frozen k6 0
  have q0 := blk_put k6 0 (.slice AL s.L.length cl) rfl
  have qu1 := (blk_cell q0 1).trans (show _ = some (.slice none 0 0) from rfl)
  have qf1 := blk_frozen q0 1
  have q1 := blk_put q0 1 (.slice AT s.tag.length ct) rfl
  have qu2 := (blk_cell q1 2).trans (show _ = some (.int .i64 0) from rfl)
  have qf2 := blk_frozen q1 2
  have q2 := blk_put q1 2 (.int .i64 s.room) rfl
  have qu3 := (blk_cell q2 3).trans (show _ = some (.int .i64 0) from rfl)
  have qf3 := blk_frozen q2 3
  have q3 := blk_put q2 3 (.int .i64 s.sure) rfl
  have qu4 := (blk_cell q3 4).trans (show _ = some (.slice none 0 0) from rfl)
  have qf4 := blk_frozen q3 4
  have q4 := blk_put q3 4 (.slice AB s.bs.length cb) rfl
  have HQ := Aside0.mk q4
  clear q0 q1 q2 q3 q4
  clear k6 c0 c1 c2 c3
  go_enter Try.func29, Try.ntmps29
  go_upto_region 1 with (fail)
  try simp only [← hW3]
  clear hW3
  go_wp2
  refine bodyPost_ret (results_ct rfl _ _ (W.heap.size + 2) TRJ #[.slice AL s.L.length cl, .slice AT s.tag.length ct, .int .i64 s.room, .int .i64 s.sure, .slice AB s.bs.length cb] (0, 0) _ rfl HQ.out Try.underlying46 rfl (by kernel_rfl)) rfl ?_
  have hke : Kept W3 (((((W3.setCell ⟨W.heap.size + 2, 0, none⟩ (.slice AL s.L.length cl)).setCell ⟨W.heap.size + 2, 1, none⟩ (.slice AT s.tag.length ct)).setCell ⟨W.heap.size + 2, 2, none⟩ (.int .i64 s.room)).setCell ⟨W.heap.size + 2, 3, none⟩ (.int .i64 s.sure)).setCell ⟨W.heap.size + 2, 4, none⟩ (.slice AB s.bs.length cb)) (fun q => q = W.heap.size + 2) := Kept.setCell (S := fun q => q = W.heap.size + 2) (p := ⟨W.heap.size + 2, 4, none⟩) (Kept.setCell (S := fun q => q = W.heap.size + 2) (p := ⟨W.heap.size + 2, 3, none⟩) (Kept.setCell (S := fun q => q = W.heap.size + 2) (p := ⟨W.heap.size + 2, 2, none⟩) (Kept.setCell (S := fun q => q = W.heap.size + 2) (p := ⟨W.heap.size + 2, 1, none⟩) (Kept.setCell (S := fun q => q = W.heap.size + 2) (p := ⟨W.heap.size + 2, 0, none⟩) (Kept.refl _ _) (.inl rfl) _) (.inl rfl) _) (.inl rfl) _) (.inl rfl) _) (.inl rfl) _
  have hbe : Below W.heap.size W (((((W3.setCell ⟨W.heap.size + 2, 0, none⟩ (.slice AL s.L.length cl)).setCell ⟨W.heap.size + 2, 1, none⟩ (.slice AT s.tag.length ct)).setCell ⟨W.heap.size + 2, 2, none⟩ (.int .i64 s.room)).setCell ⟨W.heap.size + 2, 3, none⟩ (.int .i64 s.sure)).setCell ⟨W.heap.size + 2, 4, none⟩ (.slice AB s.bs.length cb)) := below_set (below_set (below_set (below_set (below_set (HB03.out) (Nat.le_add_right _ 2)) (Nat.le_add_right _ 2)) (Nat.le_add_right _ 2)) (Nat.le_add_right _ 2)) (Nat.le_add_right _ 2)
  rw [HDO.out]
  exact ⟨_, _, _, _, _, _, rfl, rc_end (rc_mono HRC.out (fun q hq => .inl hq)) hke, hbe⟩
end Go.Proofs.Ytogjnipojakfjaa.JJour
