/- Is a journal what the model says? -/
import Derived.Test.YtogjnipojakfjaaJJour9
import Derived.Test.YtogjnipojakfjaaPJdx3
import Derived.Test.YtogjnipojakfjaaPJdx9
import Derived.Test.YtogjnipojakfjaaPJdx10
import Derived.Test.YtogjnipojakfjaaPJdx11
import Derived.Test.YtogjnipojakfjaaPJdx8
import Derived.Test.YtogjnipojakfjaaPJdx12
/- Is a journal what the model says? -/
namespace Go.Proofs.Ytogjnipojakfjaa.JJour
open Go.RowKit Go.Proofs.Ytogjnipojakfjaa.PJd Go.Proofs.YtogjnipojakfjaaW.PrintWords Go.Proofs.YtogjnipojakfjaaW.PrintLast Go.Proofs.YtogjnipojakfjaaW.PrintMore
open LSame (Byt)
open LChain (msgS tagS zeroT)
open DDev (Dev dev_below dev_kept dev_drewN dev_mono T8 TD heldN)
set_option linter.unusedVariables false
set_option linter.unusedSimpArgs false
set_option maxHeartbeats 16000000 in
set_option maxRecDepth 100000 in
theorem like.calls (w0 : World) (gj gd : Nat) (O : Nat → Prop) (s : St) (hG : Good s) (AL AT AB : Option Addr) (cl ct cb : Nat) (room sure : Int) (W : World) (h : Jn W w0.heap.size gj gd O s) (hcl : s.L.length ≤ cl) (hL : Kd.C kE W AL s.L.length s.L) (hct : s.tag.length ≤ ct) (hT : Kd.C (Kd.int .u8) W AT s.tag.length s.tag) (hcb : s.bs.length ≤ cb) (hBb : Kd.C (Kd.int .u8) W AB s.bs.length s.bs) :
    Calls Try.prog 20 #[.pointer (some ⟨gj, 0, none⟩), .agg #[.slice AL s.L.length cl, .slice AT s.tag.length ct, .int .i64 room, .int .i64 sure, .slice AB s.bs.length cb]] W fun x w' => x = .returned (.bool true) ∧ Below W.heap.size W w' := by
  obtain ⟨W1, hW1⟩ : ∃ W1 : World, W1 = W.alloc (.cells #[.slice AL s.L.length cl, .slice AT s.tag.length ct, .int .i64 room, .int .i64 sure, .slice AB s.bs.length cb] 46) := ⟨_, rfl⟩
  have hb1 : Below W.heap.size W W1 := by rw [hW1]; exact below_alloc (Below.refl _ _) _
  have hx1 : W1.heap[W.heap.size]? = some (.cells #[.slice AL s.L.length cl, .slice AT s.tag.length ct, .int .i64 room, .int .i64 sure, .slice AB s.bs.length cb] 46 (0, 0)) := by rw [hW1]; exact blk_new _ _
  have z0 : W1.cell? ⟨W.heap.size, 0, none⟩ = some (.slice AL s.L.length cl) := (blk_cell hx1 0).trans rfl
  have z1 : W1.cell? ⟨W.heap.size, 1, none⟩ = some (.slice AT s.tag.length ct) := (blk_cell hx1 1).trans rfl
  have z4 : W1.cell? ⟨W.heap.size, 4, none⟩ = some (.slice AB s.bs.length cb) := (blk_cell hx1 4).trans rfl
  have HB0 := Aside0.mk hb1
  have HJ1 : Aside0 (Jn W1 w0.heap.size gj gd O s) := ⟨jn_below h hb1⟩
  have HN : Aside0 ((s.n : Int) = (s.L.length : Int)) := ⟨by rw [hG.nl]⟩
  have hnb := hG.nb
  have hb0 := hG.b0
  have hr1 := hG.r1
  have hnl := hG.nl
  have HBS : Aside0 (s.bs.length ≤ 65536) := ⟨by omega⟩
  have HTL : Aside0 (s.tag.length ≤ 65536) := ⟨by rw [hG.tl]; decide⟩
  have HE : Aside0 (s.L.length < 1000000 ∧ ∀ e ∈ s.L, e.f1.length ≤ 100000) := ⟨by omega, fun e he => by have := (hG.le e he).2; omega⟩
  obtain ⟨k2, hk2⟩ := Ev.rounds (LChain.alike_self s.L (fun e he => (hG.le e he).2) (by omega))
  have HK2 := Aside0.mk hk2
  have HCL := Aside0.mk hcl
  have HCT := Aside0.mk hct
  have HCB := Aside0.mk hcb
  have HL := Aside0.mk (Kd.C_below hL hb1)
  have HT := Aside0.mk (Kd.C_below hT hb1)
  have HBB := Aside0.mk (Kd.C_below hBb hb1)
  clear h hb1 hx1 hG hnb hb0 hr1 hnl hk2 hcl hL hct hT hcb hBb
  go_enter Try.func20, Try.ntmps20
  go_upto_region 1 with (fail)
  try simp only [← hW1]
  clear hW1
  go_region_held3 (fun w' => w'.cell? ⟨W.heap.size, 0, none⟩ = some (.slice AL s.L.length cl) ∧ w'.cell? ⟨W.heap.size, 1, none⟩ = some (.slice AT s.tag.length ct) ∧ w'.cell? ⟨W.heap.size, 4, none⟩ = some (.slice AB s.bs.length cb)) (first | exact ⟨pw_cell_below HB8.out z0, pw_cell_below HB8.out z1, pw_cell_below HB8.out z4⟩ | exact ⟨pw_cell_below HB7.out z0, pw_cell_below HB7.out z1, pw_cell_below HB7.out z4⟩ | exact ⟨pw_cell_below HB6.out z0, pw_cell_below HB6.out z1, pw_cell_below HB6.out z4⟩ | exact ⟨pw_cell_below HB5.out z0, pw_cell_below HB5.out z1, pw_cell_below HB5.out z4⟩ | exact ⟨pw_cell_below HB4.out z0, pw_cell_below HB4.out z1, pw_cell_below HB4.out z4⟩ | exact ⟨pw_cell_below HB3.out z0, pw_cell_below HB3.out z1, pw_cell_below HB3.out z4⟩ | exact ⟨z0, z1, z4⟩ | go_keep) (first | (go_at_call 31; (with_reducible refine (notaryref46_Alike.calls k2 A7 c7 s.L AL cl s.L true _ (Kd.C_below HC7.out.2 (by with_reducible repeat (first | exact Below.refl _ _ | apply below_alloc | apply below_drew))) HC7.out.1 (Kd.C_below HL.out (below_step HB7.out (by with_reducible repeat (first | exact Below.refl _ _ | apply below_alloc | apply below_drew)))) HCL.out HK2.out).mono ?_); rintro x w8 ⟨rfl, hb8⟩; (have HB8 : Aside0 (Below W1.heap.size W1 w8) := ⟨below_step (below_step HB7.out (by with_reducible repeat (first | exact Below.refl _ _ | apply below_alloc | apply below_drew))) hb8⟩); clear hb8) | (go_at_call 25; (with_reducible refine (Entries.calls w0.heap.size gj gd O s HE.out.1 HE.out.2 _ (jn_below HJ1.out (below_step HB6.out (by with_reducible repeat (first | exact Below.refl _ _ | apply below_alloc | apply below_drew))))).mono ?_); rintro x w7 ⟨A7, c7, rfl, hc7, hC7, hb7⟩; (have HC7 := Aside0.mk (And.intro hc7 hC7)); clear hc7 hC7; (have HB7 : Aside0 (Below W1.heap.size W1 w7) := ⟨below_step (below_step HB6.out (by with_reducible repeat (first | exact Below.refl _ _ | apply below_alloc | apply below_drew))) hb7⟩); clear hb7) | (go_at_call 16; (with_reducible refine (same_ret A5 c5 s.bs AB cb s.bs _ (Kd.C_below HC5.out.2 (by with_reducible repeat (first | exact Below.refl _ _ | apply below_alloc | apply below_drew))) HC5.out.1 (Kd.C_below HBB.out (below_step HB5.out (by with_reducible repeat (first | exact Below.refl _ _ | apply below_alloc | apply below_drew)))) HCB.out (Nat.le_trans HBS.out (by decide)) true (decide_eq_true rfl).symm).mono ?_); rintro x w6 ⟨rfl, hb6⟩; (have HB6 : Aside0 (Below W1.heap.size W1 w6) := ⟨below_step (below_step HB5.out (by with_reducible repeat (first | exact Below.refl _ _ | apply below_alloc | apply below_drew))) hb6⟩); clear hb6) | (go_at_call 12; (with_reducible refine (Log.calls w0 gj gd O s HBS.out _ (jn_below HJ1.out (below_step HB4.out (by with_reducible repeat (first | exact Below.refl _ _ | apply below_alloc | apply below_drew))))).mono ?_); rintro x w5 ⟨A5, c5, rfl, hc5, hF5, hb5⟩; (have HC5 := Aside0.mk (And.intro hc5 (Kd.F_now hF5))); clear hc5 hF5; (have HB5 : Aside0 (Below W1.heap.size W1 w5) := ⟨below_step (below_step HB4.out (by with_reducible repeat (first | exact Below.refl _ _ | apply below_alloc | apply below_drew))) hb5⟩); clear hb5) | (go_at_call 16; (with_reducible refine (same_ret A3 c3 s.tag AT ct s.tag _ (Kd.C_below HC3.out.2 (by with_reducible repeat (first | exact Below.refl _ _ | apply below_alloc | apply below_drew))) HC3.out.1 (Kd.C_below HT.out (below_step HB3.out (by with_reducible repeat (first | exact Below.refl _ _ | apply below_alloc | apply below_drew)))) HCT.out (Nat.le_trans HTL.out (by decide)) true (decide_eq_true rfl).symm).mono ?_); rintro x w4 ⟨rfl, hb4⟩; (have HB4 : Aside0 (Below W1.heap.size W1 w4) := ⟨below_step (below_step HB3.out (by with_reducible repeat (first | exact Below.refl _ _ | apply below_alloc | apply below_drew))) hb4⟩); clear hb4) | (go_at_call 13; (with_reducible refine (Tag.calls w0.heap.size gj gd O s HTL.out _ (jn_below HJ1.out (by with_reducible repeat (first | exact Below.refl _ _ | apply below_alloc | apply below_drew)))).mono ?_); rintro x w3 ⟨A3, c3, rfl, hc3, hF3, hb3⟩; (have HC3 := Aside0.mk (And.intro hc3 (Kd.F_now hF3))); clear hc3 hF3; (have HB3 : Aside0 (Below W1.heap.size W1 w3) := ⟨below_step (by with_reducible repeat (first | exact Below.refl _ _ | apply below_alloc | apply below_drew)) hb3⟩); clear hb3) | (go_at_call 14; (with_reducible refine (Count.ret w0.heap.size gj gd O s (s.L.length : Int) HN.out _ (jn_below HJ1.out (by with_reducible repeat (first | exact Below.refl _ _ | apply below_alloc | apply below_drew)))).mono ?_); rintro x wz ⟨rfl, rfl⟩))
  rename_i hHeld
  clear hHeld z0 z1 z4
  go_wp2
  go_ret
  exact ⟨rfl, HB0.out.trans (HB8.out.mono HB0.out.size)⟩
end Go.Proofs.Ytogjnipojakfjaa.JJour

/- The reference of the journal: what is on a device; its walk, by contents. -/
namespace Go.Proofs.Ytogjnipojakfjaa.JJour
open Go.RowKit Go.Proofs.Ytogjnipojakfjaa.PJd Go.Proofs.YtogjnipojakfjaaW.PrintWords Go.Proofs.YtogjnipojakfjaaW.PrintLast Go.Proofs.YtogjnipojakfjaaW.PrintMore
open LSame (Byt)
open LChain (msgS tagS zeroT)
open DDev (Dev dev_below dev_kept dev_drewN dev_mono T8 TD heldN)
set_option linter.unusedVariables false
set_option linter.unusedSimpArgs false
abbrev TRD : Nat := 40
abbrev TRJ : Nat := 46
theorem rbetween_s (a hi : Int) (h0 : 0 ≤ a) (w : World) : Calls Try.prog 42 #[.int .i64 a, .int .i64 hi] w fun e w' => e = .returned (.int .i64 (mn a hi)) ∧ w' = w := by
  go_enter Try.func42, Try.ntmps42
  go_wp2
  all_goals
    go_ret
    refine ⟨congrArg (fun z => Ending.returned (.int .i64 z)) ?_, rfl⟩
    unfold mn
    repeat' split
    all_goals omega
theorem rbetween_q (a hi : Int) (h0 : 0 ≤ a) (w : World) : Calls Try.prog 42 #[.int .i64 a, .int .i64 hi] w fun e w' => e = .returned (.int .i64 (mn a hi)) ∧ w = w' := (rbetween_s a hi h0 w).mono fun e w' ⟨he, hw⟩ => ⟨he, hw.symm⟩
set_option maxHeartbeats 8000000 in
set_option maxRecDepth 100000 in
theorem rcut.calls (room sure : Int) (n : Nat) (A : Option Addr) (cp : Nat) (m : Nat) (hm : m ≤ n) (hs : 0 ≤ sure) (w : World) (hcp : n ≤ cp) (hn : n ≤ 1000000) :
    Calls Try.prog 45 #[.agg #[.int .i64 room, .int .i64 sure, .slice A n cp], .int .i64 (m : Int)] w fun e w' => e = .returned (.agg #[.int .i64 room, .int .i64 (mn sure (m : Int)), .slice A m cp]) ∧ Below w.heap.size w w' := by
  obtain ⟨i0, hi0, _⟩ := info_parts info5
  have hcut : ∀ W : World, (Instr.slice 22 (.slice A n cp) none (some (.int .i64 (m : Int))) none).run Try.prog W = .ok (.slice A m cp) W := fun W => by
    have := cut_to (P := Try.prog) 22 5 .i64 Try.underlying22 hi0 A n cp (m : Int) (by omega) (by omega) hcp W
    simpa using this
  have hmn : mn (m : Int) (n : Int) = (m : Int) := by unfold mn; split <;> omega
  obtain ⟨z, hz⟩ : ∃ z : Int, mn sure (m : Int) = z := ⟨_, rfl⟩
  obtain ⟨W2, hW2⟩ : ∃ W2 : World, W2 = (w.alloc (.cells #[.int .i64 room, .int .i64 sure, .slice A n cp] TRD)).alloc (.cells #[.int .i64 0, .int .i64 0, .slice none 0 0] TRD) := ⟨_, rfl⟩
  have hb2 : Below w.heap.size w W2 := by rw [hW2]; exact below_alloc (below_alloc (Below.refl _ _) _) _
  have k1 : W2.heap[w.heap.size]? = some (.cells #[.int .i64 room, .int .i64 sure, .slice A n cp] TRD (0, 0)) := by rw [hW2]; exact blk_alloc (blk_new _ _) _
  have k2 : W2.heap[w.heap.size + 1]? = some (.cells #[.int .i64 0, .int .i64 0, .slice none 0 0] TRD (0, 0)) := by
    rw [hW2]
    have := blk_new (w.alloc (.cells #[.int .i64 room, .int .i64 sure, .slice A n cp] TRD)) (.cells #[.int .i64 0, .int .i64 0, .slice none 0 0] TRD)
    simpa using this
  have y2 : W2.cell? ⟨w.heap.size, 2, none⟩ = some (.slice A n cp) := (blk_cell k1 2).trans rfl
  have f2 : W2.frozen? ⟨w.heap.size, 2, none⟩ = false := blk_frozen k1 2
  have HB2 := Aside0.mk hb2
  have HK1 := Aside0.mk k1
  have HK2 := Aside0.mk k2
  have HZ := Aside0.mk hz
  have HS := Aside0.mk hs
  clear hb2 k1 k2 hi0 hcp hz hs hm
  go_enter Try.func45, Try.ntmps45
  go_upto_region 1 with (fail)
  try simp only [← hW2]
  clear hW2
  refine wp_region_still_tail 9 (by kernel_rfl) (by kernel_rfl) ?_
  simp only [List.take_succ_cons, List.take_zero, List.drop_succ_cons, List.drop_zero]
  repeat still_step
  still_call (rbetween_s (m : Int) (n : Int) (by omega) W2.drew)
  simp only [hmn]
  repeat still_step
  refine wpStill_nil ?_
  change wpList _ _ _ _ _ W2.drew
  go_upto_region 2 with (fail)
  obtain ⟨W3, hW3⟩ : ∃ W3 : World, W3 = (W2.setCell ⟨w.heap.size, 2, none⟩ (.slice A m cp)).drew := ⟨_, rfl⟩
  have hb3 : Below w.heap.size w W3 := by rw [hW3]; exact below_drew (below_set HB2.out (Nat.le_refl _))
  have k1 : W3.heap[w.heap.size]? = some (.cells #[.int .i64 room, .int .i64 sure, .slice A m cp] TRD (0, 0)) := by rw [hW3]; exact blk_drew (blk_put HK1.out 2 _ rfl)
  have k2 : W3.heap[w.heap.size + 1]? = some (.cells #[.int .i64 0, .int .i64 0, .slice none 0 0] TRD (0, 0)) := by rw [hW3]; exact blk_drew (blk_far HK2.out (Nat.succ_ne_self _) _)
  have x1 : W3.cell? ⟨w.heap.size, 1, none⟩ = some (.int .i64 sure) := (blk_cell k1 1).trans rfl
  have x2 : W3.cell? ⟨w.heap.size, 2, none⟩ = some (.slice A m cp) := (blk_cell k1 2).trans rfl
  have f1 : W3.frozen? ⟨w.heap.size, 1, none⟩ = false := blk_frozen k1 1
  have HB3 := Aside0.mk hb3
  have HK3 := Aside0.mk k1
  have HK4 := Aside0.mk k2
  try rw [← hW3]
  clear hW3 hb3 k1 k2 y2 f2 hcut HB2 HK1 HK2
  go_upto_region 3 with (go_at_call 42; (with_reducible refine (rbetween_q sure (m : Int) HS.out _).mono ?_); rintro e wz ⟨rfl, rfl⟩; simp only [HZ.out])
  obtain ⟨W4, hW4⟩ : ∃ W4 : World, W4 = W3.setCell ⟨w.heap.size, 1, none⟩ (.int .i64 z) := ⟨_, rfl⟩
  have hb4 : Below w.heap.size w W4 := by rw [hW4]; exact below_set HB3.out (Nat.le_refl _)
  have k1 : W4.heap[w.heap.size]? = some (.cells #[.int .i64 room, .int .i64 z, .slice A m cp] TRD (0, 0)) := by rw [hW4]; exact blk_put HK3.out 1 _ rfl
  have k2 : W4.heap[w.heap.size + 1]? = some (.cells #[.int .i64 0, .int .i64 0, .slice none 0 0] TRD (0, 0)) := by rw [hW4]; exact blk_far HK4.out (Nat.succ_ne_self _) _
  try rw [← hW4]
  clear hW4 x1 x2 f1 HB3 HK3 HK4
  have x0 : W4.cell? ⟨w.heap.size, 0, none⟩ = some (.int .i64 room) := (blk_cell k1 0).trans rfl
  have x1 : W4.cell? ⟨w.heap.size, 1, none⟩ = some (.int .i64 z) := (blk_cell k1 1).trans rfl
  have x2 : W4.cell? ⟨w.heap.size, 2, none⟩ = some (.slice A m cp) := (blk_cell k1 2).trans rfl
  have k2a := blk_put k2 0 (.int .i64 room) rfl
  have k2b := blk_put k2a 1 (.int .i64 z) rfl
  have k2c := blk_put k2b 2 (.slice A m cp) rfl
  have u0 : W4.cell? ⟨w.heap.size + 1, 0, none⟩ = some (.int .i64 0) := (blk_cell k2 0).trans rfl
  have u1 : (W4.setCell ⟨w.heap.size + 1, 0, none⟩ (.int .i64 room)).cell? ⟨w.heap.size + 1, 1, none⟩ = some (.int .i64 0) := (blk_cell k2a 1).trans rfl
  have u2 : ((W4.setCell ⟨w.heap.size + 1, 0, none⟩ (.int .i64 room)).setCell ⟨w.heap.size + 1, 1, none⟩ (.int .i64 z)).cell? ⟨w.heap.size + 1, 2, none⟩ = some (.slice none 0 0) := (blk_cell k2b 2).trans rfl
  have f0 := blk_frozen k2 0
  have f1 := blk_frozen k2a 1
  have f2 := blk_frozen k2b 2
  have HB4 := Aside0.mk hb4
  have HK := Aside0.mk k2c
  clear hb4 k1 k2 k2a k2b k2c
  go_wp2
  refine bodyPost_ret (results_cell_row rfl _ _ (w.heap.size + 1) TRD #[.int .i64 room, .int .i64 z, .slice A m cp] (0, 0) _ rfl HK.out Try.underlying40 rfl (by kernel_rfl)) rfl ?_
  rw [HZ.out]
  refine ⟨rfl, ?_⟩
  exact below_set (below_set (below_set HB4.out (Nat.le_succ _)) (Nat.le_succ _)) (Nat.le_succ _)
def ropT_ : Bool × List (List Nat × List Nat) := (true, [([], []), ([], []), ([1], [1]), ([0, 2], [0, 2]), ([], []), ([4], [4]), ([3, 5, 3], [3, 5]), ([0, 1, 2, 3, 4, 5, 6], []), ([7, 6, 6, 0, 1, 2, 3, 4, 5, 6], [6, 7])])
def ropB_ : List Nat := [0, 0, 2, 7, 0, 16, 63, 127, 255]
theorem ropT : rtab .any (opsOf Try.f21 6) = ropT_ := by kernel_rfl
theorem ropB : waitsOk ropT_.2 ropB_ = true := by kernel_rfl
theorem first_retF (w : World) : Calls Try.prog 26 #[] w fun e w' => ∃ A2 c2, e = .returned (.slice A2 zeroT.length c2) ∧ zeroT.length ≤ c2 ∧ Kd.F (Kd.int .u8) w' (fun q => w.heap.size ≤ q) A2 zeroT.length zeroT ∧ Below w.heap.size w w' :=
  (notaryref47_First.calls zeroT w LChain.rfirst_ok).mono (fun e w' ⟨v, a, b, d⟩ => by
    obtain ⟨A2, c2, rfl⟩ := Kd.R_slice b
    exact ⟨A2, c2, a, (Kd.R_reads' b).2.1, Kd.F_mono (Kd.R_F (Kd.R_bound b)) (fun q hq => hq.2.1), d⟩)
/-- a journal as a value, by contents: what is new, and what came in -/
def RJ (W w' : World) (P : Nat → Prop) (s : St) (x : Ending) : Prop := ∃ AL cl AT ct AB cb, x = .returned (.agg #[.slice AL s.L.length cl, .slice AT s.tag.length ct, .int .i64 s.room, .int .i64 s.sure, .slice AB s.bs.length cb]) ∧
  (s.L.length ≤ cl ∧ Kd.F kE w' (fun q => W.heap.size ≤ q) AL s.L.length s.L) ∧ (s.tag.length ≤ ct ∧ Kd.F (Kd.int .u8) w' (fun q => W.heap.size ≤ q) AT s.tag.length s.tag) ∧ (s.bs.length ≤ cb ∧ Kd.F (Kd.int .u8) w' P AB s.bs.length s.bs) ∧ Below W.heap.size W w'
theorem ropen_end {W wx wc we : World} {P : Nat → Prop} {key bs t : List Int} {room sure : Int} {L : List Ent} {m g5 : Nat} {s : St} {AL AT AB : Option Addr} {cl ct cb : Nat} (hss : s = openS key room sure bs) (hX : opn key bs (bs.length + 1) 0 zeroT [] = (L, t, (m : Int))) (hm : m ≤ bs.length)
    (hL : L.length ≤ cl ∧ Kd.F kE wx (fun q => W.heap.size + 2 ≤ q ∧ q ≠ g5) AL L.length L) (hT : t.length ≤ ct ∧ Kd.F (Kd.int .u8) wx (fun q => W.heap.size + 2 ≤ q ∧ q ≠ g5) AT t.length t) (hB : Kd.F (Kd.int .u8) W P AB bs.length bs) (hcb : bs.length ≤ cb)
    (hW : Below W.heap.size W wx) (hc : Below wx.heap.size wx wc) (hk : Kept wc we (fun q => q = g5 ∨ q = W.heap.size + 1)) (hg : W.heap.size ≤ g5) (hb : Below W.heap.size W we) :
    RJ W we P s (.returned (.agg #[.slice AL L.length cl, .slice AT t.length ct, .int .i64 room, .int .i64 (mn sure (m : Int)), .slice AB m cb])) := by
  have hs : s = { room := room, sure := mn sure (m : Int), bs := bs.take m, n := L.length, tag := t, key := key, L := L } := by
    rw [hss]
    unfold openS
    rw [hX]
    simp only
    rw [held_way _ _ (by omega) (by omega), Int.toNat_natCast, List.length_take, Nat.min_eq_left hm]
  have hl : (bs.take m).length = m := by rw [List.length_take]; omega
  rw [hs]
  refine ⟨AL, cl, AT, ct, AB, cb, by simp only [hl], ⟨hL.1, Kd.F_mono (Kd.F_kept (Kd.F_below hL.2 hc) hk (fun q hq e => ?_)) (fun q hq => by have := hq.1; omega)⟩, ⟨hT.1, Kd.F_mono (Kd.F_kept (Kd.F_below hT.2 hc) hk (fun q hq e => ?_)) (fun q hq => by have := hq.1; omega)⟩, ⟨by simp only [hl]; omega, Kd.F_mono (Kd.F_kept (Kd.F_below (Kd.F_below (Kd.F_take (Kd.F_bound hB) hm) hW) hc) hk (fun q hq e => ?_)) (fun q hq => hq.1)⟩, hb⟩
  · rcases e with e | e
    · exact hq.2 e
    · have := hq.1; omega
  · rcases e with e | e
    · exact hq.2 e
    · have := hq.1; omega
  · have := hq.2
    rcases e with e | e <;> omega
set_option maxHeartbeats 32000000 in
set_option maxRecDepth 100000 in
theorem ropen.calls (key : List Int) (Ak : Option Addr) (ck : Nat) (room sure : Int) (bs : List Int) (AB : Option Addr) (cb : Nat) (P : Nat → Prop) (W : World) (hck : key.length ≤ ck) (hK : Kd.C (Kd.int .u8) W Ak key.length key) (hcb : bs.length ≤ cb) (hB : Kd.F (Kd.int .u8) W P AB bs.length bs)
    (hBb : Byt bs) (hl : bs.length ≤ 65536) (hk : Byt key) (hkl : key.length ≤ 1000) (hsu : 0 ≤ sure) (s : St) (hss : s = openS key room sure bs) :
    Calls Try.prog 21 #[.slice Ak key.length ck, .agg #[.int .i64 room, .int .i64 sure, .slice AB bs.length cb]] W fun x w' => RJ W w' P s x := by
  have HCK := Aside0.mk hck
  have HKC := Aside0.mk hK
  have HCB := Aside0.mk hcb
  have HBF := Aside0.mk hB
  have HBB := Aside0.mk hBb
  have HLB := Aside0.mk hl
  have HKB := Aside0.mk (And.intro hk hkl)
  have HSU := Aside0.mk hsu
  clear hck hK hcb hB hBb hl hk hkl hsu
  have hu := Try.underlying35
  obtain ⟨W2, hW2⟩ : ∃ W2 : World, W2 = (W.alloc (.cells #[.int .i64 room, .int .i64 sure, .slice AB bs.length cb] TRD)).alloc (.cells #[.slice none 0 0, .slice none 0 0, .int .i64 0, .int .i64 0, .slice none 0 0] TRJ) := ⟨_, rfl⟩
  have hb2 : Below W.heap.size W W2 := by rw [hW2]; exact below_alloc (below_alloc (Below.refl _ _) _) _
  have hs2 : W2.heap.size = W.heap.size + 2 := by rw [hW2]; simp
  have k3 : W2.heap[W.heap.size]? = some (.cells #[.int .i64 room, .int .i64 sure, .slice AB bs.length cb] TRD (0, 0)) := by rw [hW2]; exact blk_alloc (blk_new _ _) _
  have k4 : W2.heap[W.heap.size + 1]? = some (.cells #[.slice none 0 0, .slice none 0 0, .int .i64 0, .int .i64 0, .slice none 0 0] TRJ (0, 0)) := by
    rw [hW2]
    have := blk_new (W.alloc (.cells #[.int .i64 room, .int .i64 sure, .slice AB bs.length cb] TRD)) (.cells #[.slice none 0 0, .slice none 0 0, .int .i64 0, .int .i64 0, .slice none 0 0] TRJ)
    simpa using this
  have HB2 := Aside0.mk hb2
  have HS2 := Aside0.mk hs2
  have K3a := Aside0.mk k3
  have K4a := Aside0.mk k4
  clear hb2 hs2 k3 k4
  go_enter Try.func21, Try.ntmps21
  go_upto_region 1 with (fail)
  try simp only [← hW2]
  clear hW2
  go_upto_region 2 with (go_at_call 26; (with_reducible refine (first_retF _).mono ?_); rintro x w1 ⟨A1, c1, rfl, hc1, hF1, hb1⟩; (have HC1 : Aside0 (zeroT.length ≤ c1 ∧ Kd.F (Kd.int .u8) w1 (fun q => W2.heap.size ≤ q) A1 zeroT.length zeroT) := ⟨hc1, hF1⟩); (have HB1 : Aside0 (Below W2.heap.size W2 w1) := ⟨below_step (by with_reducible repeat (first | exact Below.refl _ _ | apply below_alloc | apply below_drew)) hb1⟩); clear hc1 hF1 hb1)
  obtain ⟨g5, hg5⟩ : ∃ g5, g5 = w1.heap.size := ⟨_, rfl⟩
  obtain ⟨W5, hW5⟩ : ∃ W5 : World, W5 = w1.alloc (.cells #[.slice none 0 0, .slice A1 zeroT.length c1, .int .i64 0, .int .i64 0, .slice none 0 0] TRJ) := ⟨_, rfl⟩
  have hb5 : Below w1.heap.size w1 W5 := by rw [hW5]; exact below_alloc (Below.refl _ _) _
  have hbW : Below W2.heap.size W2 W5 := HB1.out.trans (hb5.mono HB1.out.size)
  have k5 : W5.heap[g5]? = some (.cells #[.slice none 0 0, .slice A1 zeroT.length c1, .int .i64 0, .int .i64 0, .slice none 0 0] TRJ (0, 0)) := by rw [hW5, hg5]; exact blk_new _ _
  have hs5 : W5.heap.size = g5 + 1 := by rw [hW5, hg5]; simp
  have h1 := HB1.out.size
  have h2 := HS2.out
  have HG5 : Aside0 (W.heap.size + 1 < g5) := ⟨by omega⟩
  have HGE : Aside0 (W.heap.size ≤ g5) := ⟨by omega⟩
  have I3 := Aside0.mk (blk_below K3a.out hbW)
  have I4 := Aside0.mk (blk_below K4a.out hbW)
  have I5 := Aside0.mk k5
  have IT : Aside0 (zeroT.length ≤ c1 ∧ Kd.F (Kd.int .u8) W5 (fun q => W.heap.size + 2 ≤ q ∧ q ≠ g5) A1 zeroT.length zeroT) := ⟨HC1.out.1, Kd.F_below (Kd.F_mono (Kd.F_bound HC1.out.2) (fun q hq => ⟨by have h3 : W2.heap.size ≤ q := hq.1; omega, by have h3 := hq.2; omega⟩)) hb5⟩
  have IB : Aside0 (Below W.heap.size W W5) := ⟨HB2.out.trans (hbW.mono HB2.out.size)⟩
  have IS : Aside0 (W.heap.size + 2 ≤ W5.heap.size) := ⟨by omega⟩
  try simp only [← hg5]
  try simp only [← hW5]
  try rw [← hW5]
  clear hW5 hb5 hbW k5 hs5 h1 h2 hg5 HC1 HB1 K3a K4a HB2 HS2
  go_wp2
  go_loopg [6] (bs.length + 1) (fun q v6 w' => ∃ (a : Int) (t : List Int) (L : List Ent) (AL : Option Addr) (cl : Nat) (AT : Option Addr) (ct : Nat), v6 = .int .i64 a ∧ Aside0 (Way bs a t L) ∧ Aside0 ((bs.length : Int) < a + (q : Int)) ∧ Aside0 (opn key bs q a t L = opn key bs (bs.length + 1) 0 zeroT []) ∧ Aside0 (w'.heap[g5]? = some (.cells #[.slice AL L.length cl, .slice AT t.length ct, .int .i64 0, .int .i64 0, .slice none 0 0] TRJ (0, 0))) ∧ Aside0 (L.length ≤ cl ∧ Kd.F kE w' (fun q => W.heap.size + 2 ≤ q ∧ q ≠ g5) AL L.length L) ∧ Aside0 (t.length ≤ ct ∧ Kd.F (Kd.int .u8) w' (fun q => W.heap.size + 2 ≤ q ∧ q ≠ g5) AT t.length t) ∧ Aside0 (w'.heap[W.heap.size]? = some (.cells #[.int .i64 room, .int .i64 sure, .slice AB bs.length cb] TRD (0, 0))) ∧ Aside0 (w'.heap[W.heap.size + 1]? = some (.cells #[.slice none 0 0, .slice none 0 0, .int .i64 0, .int .i64 0, .slice none 0 0] TRJ (0, 0))) ∧ Aside0 (Below W.heap.size W w') ∧ Aside0 (W.heap.size + 2 ≤ w'.heap.size))
  case atStart => exact ⟨0, zeroT, [], none, 0, A1, c1, rfl, ⟨way0 bs⟩, ⟨by omega⟩, ⟨rfl⟩, I5, ⟨Nat.le_refl _, Kd.F_nil _ _ _⟩, IT, I3, I4, IB, IS⟩
  case round =>
    clear I5 IT I3 I4 IB IS
    obtain ⟨a, t, L, AL, cl, AT, ct, rfl, hway, hfu, hx, K5, HL, HT, K3, K4, HB, HSZ⟩ := hrel
    obtain ⟨m, rfl⟩ : ∃ m : Nat, a = (m : Int) := ⟨a.toNat, by have := hway.out.a0; omega⟩
    have HM : Aside0 (m ≤ bs.length) := ⟨by have := hway.out.a1; omega⟩
    cases gk with
    | zero => exact absurd hfu.out (by have := HM.out; omega)
    | succ q =>
      have hx0 := hx.out
      rw [opn] at hx0
      by_cases hlt : (m : Int) < (bs.length : Int)
      case neg =>
        rw [if_neg hlt] at hx0
        have HX := Aside0.mk hx0.symm
        have d1 : decide ((m : Int) < (bs.length : Int)) = false := decide_eq_false hlt
        have d2 : decide (m < bs.length) = false := decide_eq_false (by omega)
        clear hx hx0 hlt hway hfu
        have b2 : wr.cell? ⟨W.heap.size, 2, none⟩ = some (.slice AB bs.length cb) := (blk_cell K3.out 2).trans rfl
        go_upto_region 9 with (fail)
        clear b2
        obtain ⟨wx, hwx⟩ : ∃ wx : World, wx = wr := ⟨_, rfl⟩
        have hbx : Below wr.heap.size wr wx := by rw [hwx]; exact Below.refl _ _
        replace K3 := Aside0.mk (blk_below K3.out hbx)
        replace K4 := Aside0.mk (blk_below K4.out hbx)
        replace K5 := Aside0.mk (blk_below K5.out hbx)
        replace HL := Aside0.mk (And.intro HL.out.1 (Kd.F_below HL.out.2 hbx))
        replace HT := Aside0.mk (And.intro HT.out.1 (Kd.F_below HT.out.2 hbx))
        replace HB := Aside0.mk (HB.out.trans (hbx.mono HB.out.size))
        try rw [← hwx]
        clear hwx hbx
        have x0 : wx.cell? ⟨W.heap.size, 0, none⟩ = some (.int .i64 room) := (blk_cell K3.out 0).trans rfl
        have x1 : wx.cell? ⟨W.heap.size, 1, none⟩ = some (.int .i64 sure) := (blk_cell K3.out 1).trans rfl
        have x2 : wx.cell? ⟨W.heap.size, 2, none⟩ = some (.slice AB bs.length cb) := (blk_cell K3.out 2).trans rfl
        go_upto_region 10 with (go_at_call 45; (with_reducible refine (rcut.calls room sure bs.length AB cb m HM.out HSU.out _ HCB.out (Nat.le_trans HLB.out (by decide))).mono ?_); rintro x wc ⟨rfl, hbc⟩; (have HBC : Aside0 (Below wx.heap.size wx wc) := ⟨below_step (by with_reducible repeat (first | exact Below.refl _ _ | apply below_alloc | apply below_drew)) hbc⟩); (have kq5 := blk_below K5.out HBC.out); (have kq4 := blk_below K4.out HBC.out); (have ka := blk_put kq5 2 (.int .i64 room) rfl); (have kb := blk_put ka 3 (.int .i64 (mn sure (m : Int))) rfl); (have e2 : wc.cell? ⟨g5, 2, none⟩ = some (.int .i64 0) := (blk_cell kq5 2).trans rfl); (have e3 := (blk_cell ka 3).trans (show _ = some (.int .i64 0) from rfl)); (have e4 := (blk_cell kb 4).trans (show _ = some (.slice none 0 0) from rfl)); (have f2 := blk_frozen kq5 2); (have f3 := blk_frozen ka 3); (have f4 := blk_frozen kb 4); clear hbc kq5 kq4 ka kb)
        obtain ⟨wd, hwd⟩ : ∃ wd : World, wd = ((wc.setCell ⟨g5, 2, none⟩ (.int .i64 room)).setCell ⟨g5, 3, none⟩ (.int .i64 (mn sure (m : Int)))).setCell ⟨g5, 4, none⟩ (.slice AB m cb) := ⟨_, rfl⟩
        have k5 : wd.heap[g5]? = some (.cells #[.slice AL L.length cl, .slice AT t.length ct, .int .i64 room, .int .i64 (mn sure (m : Int)), .slice AB m cb] TRJ (0, 0)) := by rw [hwd]; exact blk_put (blk_put (blk_put (blk_below K5.out HBC.out) 2 _ rfl) 3 _ rfl) 4 _ rfl
        have hne : W.heap.size + 1 ≠ g5 := Nat.ne_of_lt (HG5.out)
        have k4 : wd.heap[W.heap.size + 1]? = some (.cells #[.slice none 0 0, .slice none 0 0, .int .i64 0, .int .i64 0, .slice none 0 0] TRJ (0, 0)) := by rw [hwd]; exact blk_far (blk_far (blk_far (blk_below K4.out HBC.out) hne _) hne _) hne _
        have hkd : Kept wc wd (fun q => q = g5 ∨ q = W.heap.size + 1) := by rw [hwd]; exact ((Kept.setCell (Kept.refl _ _) (.inl (.inl rfl)) _).setCell (.inl (.inl rfl)) _).setCell (.inl (.inl rfl)) _
        have hbd : Below W.heap.size W wd := by rw [hwd]; exact below_set (below_set (below_set (HB.out.trans (HBC.out.mono HB.out.size)) HGE.out) HGE.out) HGE.out
        try rw [← hwd]
        clear hwd x0 x1 x2 e2 e3 e4 f2 f3 f4
        have a0 : wd.cell? ⟨g5, 0, none⟩ = some (.slice AL L.length cl) := (blk_cell k5 0).trans rfl
        have a1 : wd.cell? ⟨g5, 1, none⟩ = some (.slice AT t.length ct) := (blk_cell k5 1).trans rfl
        have a2 : wd.cell? ⟨g5, 2, none⟩ = some (.int .i64 room) := (blk_cell k5 2).trans rfl
        have a3 : wd.cell? ⟨g5, 3, none⟩ = some (.int .i64 (mn sure (m : Int))) := (blk_cell k5 3).trans rfl
        have a4 : wd.cell? ⟨g5, 4, none⟩ = some (.slice AB m cb) := (blk_cell k5 4).trans rfl
        have q0 := blk_put k4 0 (.slice AL L.length cl) rfl
        have q1 := blk_put q0 1 (.slice AT t.length ct) rfl
        have q2 := blk_put q1 2 (.int .i64 room) rfl
        have q3 := blk_put q2 3 (.int .i64 (mn sure (m : Int))) rfl
        have q4 := blk_put q3 4 (.slice AB m cb) rfl
        have u0 := (blk_cell k4 0).trans (show _ = some (.slice none 0 0) from rfl)
        have u1 := (blk_cell q0 1).trans (show _ = some (.slice none 0 0) from rfl)
        have u2 := (blk_cell q1 2).trans (show _ = some (.int .i64 0) from rfl)
        have u3 := (blk_cell q2 3).trans (show _ = some (.int .i64 0) from rfl)
        have u4 := (blk_cell q3 4).trans (show _ = some (.slice none 0 0) from rfl)
        have v0 := blk_frozen k4 0
        have v1 := blk_frozen q0 1
        have v2 := blk_frozen q1 2
        have v3 := blk_frozen q2 3
        have v4 := blk_frozen q3 4
        have HQ := Aside0.mk q4
        have HKD := Aside0.mk hkd
        have HBD := Aside0.mk hbd
        clear k5 k4 q0 q1 q2 q3 q4 hkd hbd hne
        go_wp2
        refine bodyPost_ret (results_cell_row rfl _ _ (W.heap.size + 1) TRJ #[.slice AL L.length cl, .slice AT t.length ct, .int .i64 room, .int .i64 (mn sure (m : Int)), .slice AB m cb] (0, 0) _ rfl HQ.out Try.underlying46 rfl (by kernel_rfl)) rfl ?_
        refine ropen_end hss HX.out HM.out HL.out HT.out HBF.out HCB.out HB.out HBC.out (Kept.then_ HKD.out (Kept.setCell (Kept.setCell (Kept.setCell (Kept.setCell (Kept.setCell (Kept.refl _ _) (.inl (.inr rfl)) _) (.inl (.inr rfl)) _) (.inl (.inr rfl)) _) (.inl (.inr rfl)) _) (.inl (.inr rfl)) _) (fun _ h => .inl h)) HGE.out ?_
        exact below_set (below_set (below_set (below_set (below_set HBD.out (Nat.le_succ _)) (Nat.le_succ _)) (Nat.le_succ _)) (Nat.le_succ _)) (Nat.le_succ _)
      have b2 : wr.cell? ⟨W.heap.size, 2, none⟩ = some (.slice AB bs.length cb) := (blk_cell K3.out 2).trans rfl
      have d1 : decide ((m : Int) < (bs.length : Int)) = true := decide_eq_true hlt
      have d2 : decide (m < bs.length) = true := decide_eq_true (by omega)
      rw [if_pos hlt] at hx0
      obtain ⟨⟨rk, rb, rt, rto, re⟩, hR, hE, _⟩ := LEnt.read_both bs HBB.out (by have := HLB.out; omega) (m : Int)
      rw [hR] at hx0
      simp only at hx0
      obtain ⟨kR, hkR⟩ := Ev.rounds hE
      have HKR := Aside0.mk hkR
      clear hE hkR hlt
      by_cases h0 : re = 0
      case neg =>
        rw [if_neg (fun h => h0 h.1)] at hx0
        have HX := Aside0.mk hx0.symm
        have c1_ : (re != 0) = true := bne_iff_ne.mpr h0
        have c2_ : (re == 0) = false := beq_eq_false_iff_ne.mpr h0
        clear hx hx0 hway hfu hR h0
        go_upto_region 9 with (go_at_call 43; (with_reducible refine (notaryref46_Read.calls kR AB cb bs (m : Int) rk rb rt rto re _ (Kd.C_below (Kd.F_now (Kd.F_below HBF.out HB.out)) (by with_reducible repeat (first | exact Below.refl _ _ | apply below_alloc | apply below_drew))) HCB.out HKR.out).mono ?_); rintro x w2 ⟨v1, v2, rfl, ho1, ho2, hb2⟩; (obtain ⟨Ae, ce, rfl⟩ := Kd.R_slice ho1); (obtain ⟨At2, ct2, rfl⟩ := Kd.R_slice ho2); (have HB2 : Aside0 (Below wr.heap.size wr w2) := ⟨below_step (by with_reducible repeat (first | exact Below.refl _ _ | apply below_alloc | apply below_drew)) hb2⟩); (have HO1 : Aside0 (rb.length ≤ ce ∧ Kd.F (Kd.int .u8) w2 (fun q => wr.heap.size ≤ q) Ae rb.length rb) := ⟨(Kd.R_reads' ho1).2.1, Kd.F_mono (Kd.R_F (Kd.R_bound ho1)) (fun q hq => hq.2.1)⟩); (have HO2 : Aside0 (rt.length ≤ ct2 ∧ Kd.F (Kd.int .u8) w2 (fun q => wr.heap.size ≤ q) At2 rt.length rt) := ⟨(Kd.R_reads' ho2).2.1, Kd.F_mono (Kd.R_F (Kd.R_bound ho2)) (fun q hq => hq.2.1)⟩); clear ho1 ho2 hb2)
        clear b2
        obtain ⟨wx, hwx⟩ : ∃ wx : World, wx = w2.alloc (.cells #[.int .i64 rk, .slice Ae rb.length ce] TE) := ⟨_, rfl⟩
        have hbx : Below wr.heap.size wr wx := by rw [hwx]; exact below_alloc HB2.out _
        replace K3 := Aside0.mk (blk_below K3.out hbx)
        replace K4 := Aside0.mk (blk_below K4.out hbx)
        replace K5 := Aside0.mk (blk_below K5.out hbx)
        replace HL := Aside0.mk (And.intro HL.out.1 (Kd.F_below HL.out.2 hbx))
        replace HT := Aside0.mk (And.intro HT.out.1 (Kd.F_below HT.out.2 hbx))
        replace HB := Aside0.mk (HB.out.trans (hbx.mono HB.out.size))
        try rw [← hwx]
        clear hwx hbx
        have x0 : wx.cell? ⟨W.heap.size, 0, none⟩ = some (.int .i64 room) := (blk_cell K3.out 0).trans rfl
        have x1 : wx.cell? ⟨W.heap.size, 1, none⟩ = some (.int .i64 sure) := (blk_cell K3.out 1).trans rfl
        have x2 : wx.cell? ⟨W.heap.size, 2, none⟩ = some (.slice AB bs.length cb) := (blk_cell K3.out 2).trans rfl
        go_upto_region 10 with (go_at_call 45; (with_reducible refine (rcut.calls room sure bs.length AB cb m HM.out HSU.out _ HCB.out (Nat.le_trans HLB.out (by decide))).mono ?_); rintro x wc ⟨rfl, hbc⟩; (have HBC : Aside0 (Below wx.heap.size wx wc) := ⟨below_step (by with_reducible repeat (first | exact Below.refl _ _ | apply below_alloc | apply below_drew)) hbc⟩); (have kq5 := blk_below K5.out HBC.out); (have kq4 := blk_below K4.out HBC.out); (have ka := blk_put kq5 2 (.int .i64 room) rfl); (have kb := blk_put ka 3 (.int .i64 (mn sure (m : Int))) rfl); (have e2 : wc.cell? ⟨g5, 2, none⟩ = some (.int .i64 0) := (blk_cell kq5 2).trans rfl); (have e3 := (blk_cell ka 3).trans (show _ = some (.int .i64 0) from rfl)); (have e4 := (blk_cell kb 4).trans (show _ = some (.slice none 0 0) from rfl)); (have f2 := blk_frozen kq5 2); (have f3 := blk_frozen ka 3); (have f4 := blk_frozen kb 4); clear hbc kq5 kq4 ka kb)
        obtain ⟨wd, hwd⟩ : ∃ wd : World, wd = ((wc.setCell ⟨g5, 2, none⟩ (.int .i64 room)).setCell ⟨g5, 3, none⟩ (.int .i64 (mn sure (m : Int)))).setCell ⟨g5, 4, none⟩ (.slice AB m cb) := ⟨_, rfl⟩
        have k5 : wd.heap[g5]? = some (.cells #[.slice AL L.length cl, .slice AT t.length ct, .int .i64 room, .int .i64 (mn sure (m : Int)), .slice AB m cb] TRJ (0, 0)) := by rw [hwd]; exact blk_put (blk_put (blk_put (blk_below K5.out HBC.out) 2 _ rfl) 3 _ rfl) 4 _ rfl
        have hne : W.heap.size + 1 ≠ g5 := Nat.ne_of_lt (HG5.out)
        have k4 : wd.heap[W.heap.size + 1]? = some (.cells #[.slice none 0 0, .slice none 0 0, .int .i64 0, .int .i64 0, .slice none 0 0] TRJ (0, 0)) := by rw [hwd]; exact blk_far (blk_far (blk_far (blk_below K4.out HBC.out) hne _) hne _) hne _
        have hkd : Kept wc wd (fun q => q = g5 ∨ q = W.heap.size + 1) := by rw [hwd]; exact ((Kept.setCell (Kept.refl _ _) (.inl (.inl rfl)) _).setCell (.inl (.inl rfl)) _).setCell (.inl (.inl rfl)) _
        have hbd : Below W.heap.size W wd := by rw [hwd]; exact below_set (below_set (below_set (HB.out.trans (HBC.out.mono HB.out.size)) HGE.out) HGE.out) HGE.out
        try rw [← hwd]
        clear hwd x0 x1 x2 e2 e3 e4 f2 f3 f4
        have a0 : wd.cell? ⟨g5, 0, none⟩ = some (.slice AL L.length cl) := (blk_cell k5 0).trans rfl
        have a1 : wd.cell? ⟨g5, 1, none⟩ = some (.slice AT t.length ct) := (blk_cell k5 1).trans rfl
        have a2 : wd.cell? ⟨g5, 2, none⟩ = some (.int .i64 room) := (blk_cell k5 2).trans rfl
        have a3 : wd.cell? ⟨g5, 3, none⟩ = some (.int .i64 (mn sure (m : Int))) := (blk_cell k5 3).trans rfl
        have a4 : wd.cell? ⟨g5, 4, none⟩ = some (.slice AB m cb) := (blk_cell k5 4).trans rfl
        have q0 := blk_put k4 0 (.slice AL L.length cl) rfl
        have q1 := blk_put q0 1 (.slice AT t.length ct) rfl
        have q2 := blk_put q1 2 (.int .i64 room) rfl
        have q3 := blk_put q2 3 (.int .i64 (mn sure (m : Int))) rfl
        have q4 := blk_put q3 4 (.slice AB m cb) rfl
        have u0 := (blk_cell k4 0).trans (show _ = some (.slice none 0 0) from rfl)
        have u1 := (blk_cell q0 1).trans (show _ = some (.slice none 0 0) from rfl)
        have u2 := (blk_cell q1 2).trans (show _ = some (.int .i64 0) from rfl)
        have u3 := (blk_cell q2 3).trans (show _ = some (.int .i64 0) from rfl)
        have u4 := (blk_cell q3 4).trans (show _ = some (.slice none 0 0) from rfl)
        have v0 := blk_frozen k4 0
        have v1 := blk_frozen q0 1
        have v2 := blk_frozen q1 2
        have v3 := blk_frozen q2 3
        have v4 := blk_frozen q3 4
        have HQ := Aside0.mk q4
        have HKD := Aside0.mk hkd
        have HBD := Aside0.mk hbd
        clear k5 k4 q0 q1 q2 q3 q4 hkd hbd hne
        go_wp2
        refine bodyPost_ret (results_cell_row rfl _ _ (W.heap.size + 1) TRJ #[.slice AL L.length cl, .slice AT t.length ct, .int .i64 room, .int .i64 (mn sure (m : Int)), .slice AB m cb] (0, 0) _ rfl HQ.out Try.underlying46 rfl (by kernel_rfl)) rfl ?_
        refine ropen_end hss HX.out HM.out HL.out HT.out HBF.out HCB.out HB.out HBC.out (Kept.then_ HKD.out (Kept.setCell (Kept.setCell (Kept.setCell (Kept.setCell (Kept.setCell (Kept.refl _ _) (.inl (.inr rfl)) _) (.inl (.inr rfl)) _) (.inl (.inr rfl)) _) (.inl (.inr rfl)) _) (.inl (.inr rfl)) _) (fun _ h => .inl h)) HGE.out ?_
        exact below_set (below_set (below_set (below_set (below_set HBD.out (Nat.le_succ _)) (Nat.le_succ _)) (Nat.le_succ _)) (Nat.le_succ _)) (Nat.le_succ _)
      subst h0
      obtain ⟨hw2, hlt2, hfo⟩ := way_step bs HBB.out HLB.out (m : Int) t L hway.out _ hR rfl
      have hnb := hway.out.nb
      have hml := HM.out
      have hll := HLB.out
      have hn := LChain.next_ev key t ((L.length : Int) + 1) (⟨rk, rb⟩, rt) hfo HKB.out.1 HKB.out.2 hway.out.tb hway.out.tl (by omega) (by omega)
      simp only at hn
      obtain ⟨wt, hwt⟩ : ∃ wt, wt = tagS key (msgS t ((L.length : Int) + 1) rk rb).1 := ⟨_, rfl⟩
      rw [← hwt] at hn hx0
      obtain ⟨kN, hkN⟩ := Ev.rounds hn
      have HKN := Aside0.mk hkN
      have HLL : Aside0 (L.length < 1000000) := ⟨by omega⟩
      have HRT : Aside0 (rt.length ≤ 100000) := ⟨by have := hfo.t; simp only at this; omega⟩
      have hwl : IntKind.i64.wrap ((L.length : Int) + 1) = (L.length : Int) + 1 := IntWalk.i64_in _ (by omega)
      have HWAY := Aside0.mk hw2
      have HFU : Aside0 ((bs.length : Int) < rto + (q : Int)) := ⟨by have := hfu.out; simp only at hlt2; omega⟩
      clear hn hkN hwt hfo hnb hml hll hw2 hlt2 hfu hR hx hway
      go_upto_region 5 with (go_at_call 43; (with_reducible refine (notaryref46_Read.calls kR AB cb bs (m : Int) rk rb rt rto 0 _ (Kd.C_below (Kd.F_now (Kd.F_below HBF.out HB.out)) (by with_reducible repeat (first | exact Below.refl _ _ | apply below_alloc | apply below_drew))) HCB.out HKR.out).mono ?_); rintro x w2 ⟨v1, v2, rfl, ho1, ho2, hb2⟩; (obtain ⟨Ae, ce, rfl⟩ := Kd.R_slice ho1); (obtain ⟨At2, ct2, rfl⟩ := Kd.R_slice ho2); (have HB2 : Aside0 (Below wr.heap.size wr w2) := ⟨below_step (by with_reducible repeat (first | exact Below.refl _ _ | apply below_alloc | apply below_drew)) hb2⟩); (have HO1 : Aside0 (rb.length ≤ ce ∧ Kd.F (Kd.int .u8) w2 (fun q => wr.heap.size ≤ q) Ae rb.length rb) := ⟨(Kd.R_reads' ho1).2.1, Kd.F_mono (Kd.R_F (Kd.R_bound ho1)) (fun q hq => hq.2.1)⟩); (have HO2 : Aside0 (rt.length ≤ ct2 ∧ Kd.F (Kd.int .u8) w2 (fun q => wr.heap.size ≤ q) At2 rt.length rt) := ⟨(Kd.R_reads' ho2).2.1, Kd.F_mono (Kd.R_F (Kd.R_bound ho2)) (fun q hq => hq.2.1)⟩); clear ho1 ho2 hb2)
      have gx : g5 < wr.heap.size := blk_lt K5.out
      obtain ⟨w3, hw3⟩ : ∃ w3 : World, w3 = w2.alloc (.cells #[.int .i64 rk, .slice Ae rb.length ce] TE) := ⟨_, rfl⟩
      have hb3 : Below wr.heap.size wr w3 := by rw [hw3]; exact below_alloc HB2.out _
      have ke : w3.heap[w2.heap.size]? = some (.cells #[.int .i64 rk, .slice Ae rb.length ce] TE (0, 0)) := by rw [hw3]; exact blk_new _ _
      have HT3 : Aside0 (Kd.F (Kd.int .u8) w3 (fun q => W.heap.size + 2 ≤ q ∧ q ≠ g5) AT t.length t) := ⟨Kd.F_below HT.out.2 hb3⟩
      have HKC3 : Aside0 (Kd.C (Kd.int .u8) w3 Ak key.length key) := ⟨Kd.C_below HKC.out (HB.out.trans (hb3.mono HB.out.size))⟩
      have HE3 : Aside0 (Kd.F (Kd.int .u8) w3 (fun q => wr.heap.size ≤ q ∧ q < w2.heap.size) Ae rb.length rb) := ⟨by rw [hw3]; exact Kd.F_below (Kd.F_bound HO1.out.2) (below_alloc (Below.refl _ _) _)⟩
      have HR3 : Aside0 (Kd.F (Kd.int .u8) w3 (fun q => wr.heap.size ≤ q ∧ q < w2.heap.size) At2 rt.length rt) := ⟨by rw [hw3]; exact Kd.F_below (Kd.F_bound HO2.out.2) (below_alloc (Below.refl _ _) _)⟩
      have HC3 : Aside0 (Kd.C (Kd.int .u8) w3 At2 rt.length rt) := ⟨Kd.F_now HR3.out⟩
      have z0 : w3.cell? ⟨g5, 0, none⟩ = some (.slice AL L.length cl) := (blk_cell (blk_below K5.out hb3) 0).trans rfl
      have z1 : w3.cell? ⟨g5, 1, none⟩ = some (.slice AT t.length ct) := (blk_cell (blk_below K5.out hb3) 1).trans rfl
      have z2 : w3.cell? ⟨w2.heap.size, 0, none⟩ = some (.int .i64 rk) := (blk_cell ke 0).trans rfl
      have z3 : w3.cell? ⟨w2.heap.size, 1, none⟩ = some (.slice Ae rb.length ce) := (blk_cell ke 1).trans rfl
      have HB3 := Aside0.mk hb3
      have KE := Aside0.mk ke
      have GX := Aside0.mk gx
      try rw [← hw3]
      clear hw3 hb3 ke gx
      by_cases hT : wt = rt
      case neg =>
        rw [if_neg (fun h => hT h.2)] at hx0
        have HX := Aside0.mk hx0.symm
        have SB : Aside0 (∀ x : Unit, false = decide (rt = wt)) := ⟨fun _ => (decide_eq_false (fun h => hT h.symm)).symm⟩
        clear hx0 hT
        go_upto_region 9 with (first | (go_at_call 16; (with_reducible refine (same_ret At2 ct2 rt A4 c4 wt _ (Kd.C_below (Kd.C_below HC3.out HB4.out) (by with_reducible repeat (first | exact Below.refl _ _ | apply below_alloc | apply below_drew))) HO2.out.1 (Kd.C_below HC4.out.2.2 (by with_reducible repeat (first | exact Below.refl _ _ | apply below_alloc | apply below_drew))) HC4.out.2.1 HRT.out false (SB.out ())).mono ?_); rintro x w5 ⟨rfl, hb5⟩; (have HB5 : Aside0 (Below w3.heap.size w3 w5) := ⟨below_step (below_step HB4.out (by with_reducible repeat (first | exact Below.refl _ _ | apply below_alloc | apply below_drew))) hb5⟩); clear hb5) | (go_at_call 44; (with_reducible refine (notaryref47_Next.calls kN Ak ck key AT ct t ((L.length : Int) + 1) rk Ae ce rb wt _ (Kd.C_below HKC3.out (by with_reducible repeat (first | exact Below.refl _ _ | apply below_alloc | apply below_drew))) HCK.out (Kd.C_below (Kd.F_now HT3.out) (by with_reducible repeat (first | exact Below.refl _ _ | apply below_alloc | apply below_drew))) HT.out.1 (Kd.C_below (Kd.F_now HE3.out) (by with_reducible repeat (first | exact Below.refl _ _ | apply below_alloc | apply below_drew))) HO1.out.1 HKN.out).mono ?_); rintro x w4 ⟨v4, rfl, ho4, hb4⟩; (obtain ⟨A4, c4, rfl⟩ := Kd.R_slice ho4); (have HC4 := Aside0.mk (Kd.R_reads' ho4)); (have HB4 : Aside0 (Below w3.heap.size w3 w4) := ⟨below_step (by with_reducible repeat (first | exact Below.refl _ _ | apply below_alloc | apply below_drew)) hb4⟩); clear ho4 hb4))
        clear b2 z0 z1 z2 z3
        obtain ⟨wx, hwx⟩ : ∃ wx : World, wx = w5 := ⟨_, rfl⟩
        have hbx : Below wr.heap.size wr wx := by rw [hwx]; exact (HB3.out.trans (HB5.out.mono HB3.out.size))
        replace K3 := Aside0.mk (blk_below K3.out hbx)
        replace K4 := Aside0.mk (blk_below K4.out hbx)
        replace K5 := Aside0.mk (blk_below K5.out hbx)
        replace HL := Aside0.mk (And.intro HL.out.1 (Kd.F_below HL.out.2 hbx))
        replace HT := Aside0.mk (And.intro HT.out.1 (Kd.F_below HT.out.2 hbx))
        replace HB := Aside0.mk (HB.out.trans (hbx.mono HB.out.size))
        try rw [← hwx]
        clear hwx hbx
        have x0 : wx.cell? ⟨W.heap.size, 0, none⟩ = some (.int .i64 room) := (blk_cell K3.out 0).trans rfl
        have x1 : wx.cell? ⟨W.heap.size, 1, none⟩ = some (.int .i64 sure) := (blk_cell K3.out 1).trans rfl
        have x2 : wx.cell? ⟨W.heap.size, 2, none⟩ = some (.slice AB bs.length cb) := (blk_cell K3.out 2).trans rfl
        go_upto_region 10 with (go_at_call 45; (with_reducible refine (rcut.calls room sure bs.length AB cb m HM.out HSU.out _ HCB.out (Nat.le_trans HLB.out (by decide))).mono ?_); rintro x wc ⟨rfl, hbc⟩; (have HBC : Aside0 (Below wx.heap.size wx wc) := ⟨below_step (by with_reducible repeat (first | exact Below.refl _ _ | apply below_alloc | apply below_drew)) hbc⟩); (have kq5 := blk_below K5.out HBC.out); (have kq4 := blk_below K4.out HBC.out); (have ka := blk_put kq5 2 (.int .i64 room) rfl); (have kb := blk_put ka 3 (.int .i64 (mn sure (m : Int))) rfl); (have e2 : wc.cell? ⟨g5, 2, none⟩ = some (.int .i64 0) := (blk_cell kq5 2).trans rfl); (have e3 := (blk_cell ka 3).trans (show _ = some (.int .i64 0) from rfl)); (have e4 := (blk_cell kb 4).trans (show _ = some (.slice none 0 0) from rfl)); (have f2 := blk_frozen kq5 2); (have f3 := blk_frozen ka 3); (have f4 := blk_frozen kb 4); clear hbc kq5 kq4 ka kb)
        obtain ⟨wd, hwd⟩ : ∃ wd : World, wd = ((wc.setCell ⟨g5, 2, none⟩ (.int .i64 room)).setCell ⟨g5, 3, none⟩ (.int .i64 (mn sure (m : Int)))).setCell ⟨g5, 4, none⟩ (.slice AB m cb) := ⟨_, rfl⟩
        have k5 : wd.heap[g5]? = some (.cells #[.slice AL L.length cl, .slice AT t.length ct, .int .i64 room, .int .i64 (mn sure (m : Int)), .slice AB m cb] TRJ (0, 0)) := by rw [hwd]; exact blk_put (blk_put (blk_put (blk_below K5.out HBC.out) 2 _ rfl) 3 _ rfl) 4 _ rfl
        have hne : W.heap.size + 1 ≠ g5 := Nat.ne_of_lt (HG5.out)
        have k4 : wd.heap[W.heap.size + 1]? = some (.cells #[.slice none 0 0, .slice none 0 0, .int .i64 0, .int .i64 0, .slice none 0 0] TRJ (0, 0)) := by rw [hwd]; exact blk_far (blk_far (blk_far (blk_below K4.out HBC.out) hne _) hne _) hne _
        have hkd : Kept wc wd (fun q => q = g5 ∨ q = W.heap.size + 1) := by rw [hwd]; exact ((Kept.setCell (Kept.refl _ _) (.inl (.inl rfl)) _).setCell (.inl (.inl rfl)) _).setCell (.inl (.inl rfl)) _
        have hbd : Below W.heap.size W wd := by rw [hwd]; exact below_set (below_set (below_set (HB.out.trans (HBC.out.mono HB.out.size)) HGE.out) HGE.out) HGE.out
        try rw [← hwd]
        clear hwd x0 x1 x2 e2 e3 e4 f2 f3 f4
        have a0 : wd.cell? ⟨g5, 0, none⟩ = some (.slice AL L.length cl) := (blk_cell k5 0).trans rfl
        have a1 : wd.cell? ⟨g5, 1, none⟩ = some (.slice AT t.length ct) := (blk_cell k5 1).trans rfl
        have a2 : wd.cell? ⟨g5, 2, none⟩ = some (.int .i64 room) := (blk_cell k5 2).trans rfl
        have a3 : wd.cell? ⟨g5, 3, none⟩ = some (.int .i64 (mn sure (m : Int))) := (blk_cell k5 3).trans rfl
        have a4 : wd.cell? ⟨g5, 4, none⟩ = some (.slice AB m cb) := (blk_cell k5 4).trans rfl
        have q0 := blk_put k4 0 (.slice AL L.length cl) rfl
        have q1 := blk_put q0 1 (.slice AT t.length ct) rfl
        have q2 := blk_put q1 2 (.int .i64 room) rfl
        have q3 := blk_put q2 3 (.int .i64 (mn sure (m : Int))) rfl
        have q4 := blk_put q3 4 (.slice AB m cb) rfl
        have u0 := (blk_cell k4 0).trans (show _ = some (.slice none 0 0) from rfl)
        have u1 := (blk_cell q0 1).trans (show _ = some (.slice none 0 0) from rfl)
        have u2 := (blk_cell q1 2).trans (show _ = some (.int .i64 0) from rfl)
        have u3 := (blk_cell q2 3).trans (show _ = some (.int .i64 0) from rfl)
        have u4 := (blk_cell q3 4).trans (show _ = some (.slice none 0 0) from rfl)
        have v0 := blk_frozen k4 0
        have v1 := blk_frozen q0 1
        have v2 := blk_frozen q1 2
        have v3 := blk_frozen q2 3
        have v4 := blk_frozen q3 4
        have HQ := Aside0.mk q4
        have HKD := Aside0.mk hkd
        have HBD := Aside0.mk hbd
        clear k5 k4 q0 q1 q2 q3 q4 hkd hbd hne
        go_wp2
        refine bodyPost_ret (results_cell_row rfl _ _ (W.heap.size + 1) TRJ #[.slice AL L.length cl, .slice AT t.length ct, .int .i64 room, .int .i64 (mn sure (m : Int)), .slice AB m cb] (0, 0) _ rfl HQ.out Try.underlying46 rfl (by kernel_rfl)) rfl ?_
        refine ropen_end hss HX.out HM.out HL.out HT.out HBF.out HCB.out HB.out HBC.out (Kept.then_ HKD.out (Kept.setCell (Kept.setCell (Kept.setCell (Kept.setCell (Kept.setCell (Kept.refl _ _) (.inl (.inr rfl)) _) (.inl (.inr rfl)) _) (.inl (.inr rfl)) _) (.inl (.inr rfl)) _) (.inl (.inr rfl)) _) (fun _ h => .inl h)) HGE.out ?_
        exact below_set (below_set (below_set (below_set (below_set HBD.out (Nat.le_succ _)) (Nat.le_succ _)) (Nat.le_succ _)) (Nat.le_succ _)) (Nat.le_succ _)
      rw [if_pos ⟨trivial, hT⟩] at hx0
      have HXX := Aside0.mk hx0
      have SB : Aside0 (∀ x : Unit, true = decide (rt = wt)) := ⟨fun _ => (decide_eq_true hT.symm).symm⟩
      clear hx0 hT b2
      go_upto_region 6 with (first | (go_at_call 16; (with_reducible refine (same_ret At2 ct2 rt A4 c4 wt _ (Kd.C_below (Kd.C_below HC3.out HB4.out) (by with_reducible repeat (first | exact Below.refl _ _ | apply below_alloc | apply below_drew))) HO2.out.1 (Kd.C_below HC4.out.2.2 (by with_reducible repeat (first | exact Below.refl _ _ | apply below_alloc | apply below_drew))) HC4.out.2.1 HRT.out true (SB.out ())).mono ?_); rintro x w5 ⟨rfl, hb5⟩; (have HB5 : Aside0 (Below w3.heap.size w3 w5) := ⟨below_step (below_step HB4.out (by with_reducible repeat (first | exact Below.refl _ _ | apply below_alloc | apply below_drew))) hb5⟩); clear hb5) | (go_at_call 44; (with_reducible refine (notaryref47_Next.calls kN Ak ck key AT ct t ((L.length : Int) + 1) rk Ae ce rb wt _ (Kd.C_below HKC3.out (by with_reducible repeat (first | exact Below.refl _ _ | apply below_alloc | apply below_drew))) HCK.out (Kd.C_below (Kd.F_now HT3.out) (by with_reducible repeat (first | exact Below.refl _ _ | apply below_alloc | apply below_drew))) HT.out.1 (Kd.C_below (Kd.F_now HE3.out) (by with_reducible repeat (first | exact Below.refl _ _ | apply below_alloc | apply below_drew))) HO1.out.1 HKN.out).mono ?_); rintro x w4 ⟨v4, rfl, ho4, hb4⟩; (obtain ⟨A4, c4, rfl⟩ := Kd.R_slice ho4); (have HC4 := Aside0.mk (Kd.R_reads' ho4)); (have HB4 : Aside0 (Below w3.heap.size w3 w4) := ⟨below_step (by with_reducible repeat (first | exact Below.refl _ _ | apply below_alloc | apply below_drew)) hb4⟩); clear ho4 hb4))
      refine start_ (n := 9) (S := fun w' => w'.cell? ⟨g5, 0, none⟩ = some (.slice AL L.length cl) ∧ w'.cell? ⟨w2.heap.size, 0, none⟩ = some (.int .i64 rk) ∧ w'.cell? ⟨w2.heap.size, 1, none⟩ = some (.slice Ae rb.length ce)) (ds := [8]) #[false, false, false, false, false, false, false, false, false] (by kernel_rfl) rfl rfl ⟨pw_cell_below (below_drew HB5.out) z0, pw_cell_below (below_drew HB5.out) z2, pw_cell_below (below_drew HB5.out) z3⟩ (fun hHeld => ?_); refine with_tabW ropT ropB (fun HT_ HW_ => ?_)
      have hb6 : Below w3.heap.size w3 w5.drew := below_drew HB5.out
      have KE6 := Aside0.mk (blk_below KE.out hb6)
      have K56 := Aside0.mk (blk_below K5.out (HB3.out.trans (hb6.mono HB3.out.size)))
      have HL7 := Aside0.mk (Kd.F_bound (Kd.F_below (Kd.F_below HL.out.2 HB3.out) hb6))
      have HE7 := Aside0.mk (Kd.F_below HE3.out hb6)
      have HR7 := Aside0.mk (Kd.F_below HR3.out hb6)
      have HB36 := Aside0.mk hb6
      clear hb6 z0 z1 z2 z3
      generalize w5.drew = w6 at KE6 K56 HL7 HE7 HR7 HB36 hHeld ⊢
      obtain ⟨y0, y1, y2⟩ := hHeld
      have hHeld : w6.cell? ⟨g5, 0, none⟩ = some (.slice AL L.length cl) ∧ w6.cell? ⟨w2.heap.size, 0, none⟩ = some (.int .i64 rk) ∧ w6.cell? ⟨w2.heap.size, 1, none⟩ = some (.slice Ae rb.length ce) := ⟨y0, y1, y2⟩
      have HB6 : Aside0 (Below w6.heap.size w6 w6) := ⟨Below.refl _ _⟩
      have HW2 : Aside0 (w2.heap.size ≤ w6.heap.size) := ⟨Nat.le_of_lt (blk_lt KE6.out)⟩
      have HFR : Aside0 (∀ q, w6.heap.size ≤ q → W.heap.size + 2 ≤ q ∧ q ≠ g5) := ⟨fun q hq => by have h1 := HSZ.out; have h2 := GX.out; have h3 := HB3.out.size; have h4 := HB36.out.size; omega⟩
      have OKP : Aside0 (∀ q, wr.heap.size ≤ q ∧ q < w2.heap.size → W.heap.size + 2 ≤ q ∧ q ≠ g5) := ⟨fun q hq => by have h1 := HSZ.out; have h2 := GX.out; omega⟩
      refine pure_ (i := 1) (N := some 44) (v := ?_) (a' := ?_) #[false, true, false, false, false, false, false, false, false] rfl rfl (any_of HT_.out (by kernel_rfl)) (fun _ _ _ h => h) (Or.inl ⟨by rfl, ?_⟩) ?_ ?_
      rotate_left
      · intro w'
        go_simp
        with_reducible rfl
      rotate_left
      · simp only [Act.put, List.setIfInBounds_toArray, List.set_cons_zero, List.set_cons_succ, i64_w, i32_w]
        rfl
      refine take_ (i := 2) (N := some 45) (v := ?_) (a' := ?_) #[false, true, true, false, false, false, false, false, false] rfl rfl (take_ofW HT_.out HW_.out (by kernel_rfl)) (fun _ _ _ h => h) (Or.inl ⟨by rfl, ?_⟩) hHeld ?_ ?_
      rotate_left
      · rintro w' ⟨s0, s1, s2⟩
        go_simp
        with_reducible rfl
      rotate_left
      · simp only [Act.put, List.setIfInBounds_toArray, List.set_cons_zero, List.set_cons_succ, i64_w, i32_w]
        rfl
      refine take_ (i := 4) (N := some 47) (v := ?_) (a' := ?_) #[false, true, true, false, true, false, false, false, false] rfl rfl (take_ofW HT_.out HW_.out (by kernel_rfl)) (fun _ _ _ h => h) (Or.inl ⟨by rfl, ?_⟩) hHeld ?_ ?_
      rotate_left
      · rintro w' ⟨s0, s1, s2⟩
        go_simp
        with_reducible rfl
      rotate_left
      · simp only [Act.put, List.setIfInBounds_toArray, List.set_cons_zero, List.set_cons_succ, i64_w, i32_w]
        rfl
      refine join_ (σ := Value × Value × Value) 3 #[true, true, true, true, true, true, false, false, false] (fun s_ => [(43, s_.1), (46, s_.2.1), (48, s_.2.2)]) (fun s_ w' => (w'.cell? ⟨g5, 0, none⟩ = some (.slice AL L.length cl) ∧ w'.cell? ⟨w2.heap.size, 0, none⟩ = some (.int .i64 rk) ∧ w'.cell? ⟨w2.heap.size, 1, none⟩ = some (.slice Ae rb.length ce)) ∧ Kd.N kE TE w' w6.heap.size (fun q => W.heap.size + 2 ≤ q ∧ q ≠ g5) s_.2.1 L ∧ Kd.N kE TE w' w6.heap.size (fun q => (fun q => W.heap.size + 2 ≤ q ∧ q ≠ g5) q ∧ some q ≠ s_.2.1.ownBlock) s_.2.2 [⟨rk, rb⟩] ∧ Below w6.heap.size w6 w') ?_ ?_
      rotate_left
      · intro hCont
        refine two_ (i := 0) (j := 5) (Ni := some 43) (Nj := some 48) #[true, true, true, false, true, false, false, false, false] #[false, true, true, false, true, true, false, false, false] rfl rfl rfl rfl (two_of HT_.out (by kernel_rfl)) (by decide) (by decide) (fun K hK => ?_) (fun K hK => ?_)
        · refine Kd.N_lit_step kE (w0 := w6) w6.heap.size TE ?hg (N' := 43) ?hd (xs := ([] : List Ent)) (inner := []) (ok := (fun q => W.heap.size + 2 ≤ q ∧ q ≠ g5)) (okp := (fun q => W.heap.size + 2 ≤ q ∧ q ≠ g5)) ?hr ?hp (fun _ hk => hk) (HFR.out _ HB6.out.size) HB6.out HB6.out.size (by simp) ?_; (case hd => rfl); (case hg => rfl); (case hr => first | (go_simp; done) | (go_simp; rfl)); (case hp => exact (Reps.none _ _))
          intro v43 w7 hn43 hb7 hg7 hat7; have HN43 := Aside0.mk hn43; have HB7 := Aside0.mk hb7; clear hn43 hb7 hg7 hat7
          refine hK.out _ _ ⟨pw_cell_below HB7.out y0, pw_cell_below HB7.out y1, pw_cell_below HB7.out y2⟩ (fun hHeld => ?_)
          clear hK K
          refine norm_ (a' := ?_) ?_ ?_
          rotate_left
          · show Act.put _ (some 43) _ = _
            simp only [Act.put, List.setIfInBounds_toArray, List.set_cons_zero, List.set_cons_succ, i64_w, i32_w]
            rfl
          refine two_ (i := 3) (j := 5) (Ni := some 46) (Nj := some 48) #[true, true, true, true, true, false, false, false, false] #[true, true, true, false, true, true, false, false, false] rfl rfl rfl rfl (two_of HT_.out (by kernel_rfl)) (by decide) (by decide) (fun K hK => ?_) (fun K hK => ?_)
          · refine Kd.N_append_rows_step kE (w0 := w6) w6.heap.size rfl (.tmp 43) (.tmp 45) 23 TE (.agg #[(.int .i64 0), (.slice none 0 0)]) 32 rfl Try.underlying23 info35 rfl (by decide) (by omega) v43 [] L AL L.length cl (fun q => W.heap.size + 2 ≤ q ∧ q ≠ g5) (fun k => (fun q => W.heap.size + 2 ≤ q ∧ q ≠ g5) k ∧ some k ≠ v43.ownBlock) rfl rfl HN43.out (Kd.F_mono (Kd.F_below HL7.out HB7.out) (fun q hq => ⟨hq.1, fun e_ => Nat.lt_irrefl _ (Nat.lt_of_lt_of_le hq.2 (Kd.N_base HN43.out q e_.symm))⟩)) (fun _ hk => hk) (fun q hq => HFR.out q (Nat.le_trans HB7.out.size hq)) HB7.out HB7.out.size (by have := HLL.out; simp only [List.length_nil]; omega) ?_
            intro v46 w8 hn46 hb8 hg8 hat8; rw [List.nil_append] at hn46; have HN46 := Aside0.mk hn46; have HB8 := Aside0.mk hb8; clear hn46 hb8 hg8 hat8
            refine hK.out _ _ ⟨pw_cell_below HB8.out y0, pw_cell_below HB8.out y1, pw_cell_below HB8.out y2⟩ (fun hHeld => ?_)
            clear hK K
            refine norm_ (a' := ?_) ?_ ?_
            rotate_left
            · show Act.put _ (some 46) _ = _
              simp only [Act.put, List.setIfInBounds_toArray, List.set_cons_zero, List.set_cons_succ, i64_w, i32_w]
              rfl
            refine one_ (i := 5) (N := some 48) #[true, true, true, true, true, true, false, false, false] rfl rfl (one_of HT_.out (by kernel_rfl)) (by decide) (fun K hK => ?_)
            refine Kd.N_lit_step kE (w0 := w6) w6.heap.size TE ?hg (N' := 48) ?hd (xs := ([⟨rk, rb⟩] : List Ent)) (inner := [.int .i64 rk, .slice Ae rb.length ce]) (ok := (fun q => (fun q => W.heap.size + 2 ≤ q ∧ q ≠ g5) q ∧ some q ≠ v46.ownBlock)) (okp := fun q => wr.heap.size ≤ q ∧ q < w2.heap.size) ?hr ?hp (fun q hq => ⟨OKP.out q hq, fun e_ => Nat.lt_irrefl _ (Nat.lt_of_lt_of_le (Nat.lt_of_lt_of_le hq.2 HW2.out) (Kd.N_base HN46.out q e_.symm))⟩) ⟨HFR.out _ HB8.out.size, fun e_ => Nat.lt_irrefl _ (Kd.N_lt HN46.out _ e_.symm)⟩ HB8.out HB8.out.size (by simp) ?_; (case hd => rfl); (case hg => rfl); (case hr => first | (go_simp; done) | (go_simp; rfl)); (case hp => exact Reps.c2 (show Kd.FK kE _ _ (⟨rk, rb⟩ : Ent) [.int .i64 rk, .slice Ae rb.length ce] from mk_EF _ _ _ HO1.out.1 (Kd.F_below HE7.out HB8.out)) (Reps.none _ _))
            intro v48 w9 hn48 hb9 hg9 hat9; have HN48 := Aside0.mk hn48; have HB9 := Aside0.mk hb9; have HN46b := Aside0.mk (Kd.N_grown HN46.out hg9 (fun _ _ => by simp)); clear hn48 hb9 hg9 hat9
            refine hK.out _ _ ⟨pw_cell_below HB9.out y0, pw_cell_below HB9.out y1, pw_cell_below HB9.out y2⟩ (fun hHeld => ?_)
            clear hK K
            refine norm_ (a' := ?_) ?_ ?_
            rotate_left
            · show Act.put _ (some 48) _ = _
              simp only [Act.put, List.setIfInBounds_toArray, List.set_cons_zero, List.set_cons_succ, i64_w, i32_w]
              rfl
            exact norm_ (by simp only [putAll, Act.put, List.setIfInBounds_toArray, List.set_cons_zero, List.set_cons_succ]) (hCont (v43, v46, v48) _ ⟨hHeld, HN46b.out, HN48.out, HB9.out⟩)
          · refine Kd.N_lit_step kE (w0 := w6) w6.heap.size TE ?hg (N' := 48) ?hd (xs := ([⟨rk, rb⟩] : List Ent)) (inner := [.int .i64 rk, .slice Ae rb.length ce]) (ok := (fun q => (fun q => W.heap.size + 2 ≤ q ∧ q ≠ g5) q ∧ some q ≠ v43.ownBlock)) (okp := fun q => wr.heap.size ≤ q ∧ q < w2.heap.size) ?hr ?hp (fun q hq => ⟨OKP.out q hq, fun e_ => Nat.lt_irrefl _ (Nat.lt_of_lt_of_le (Nat.lt_of_lt_of_le hq.2 HW2.out) (Kd.N_base HN43.out q e_.symm))⟩) ⟨HFR.out _ HB7.out.size, fun e_ => Nat.lt_irrefl _ (Kd.N_lt HN43.out _ e_.symm)⟩ HB7.out HB7.out.size (by simp) ?_; (case hd => rfl); (case hg => rfl); (case hr => first | (go_simp; done) | (go_simp; rfl)); (case hp => exact Reps.c2 (show Kd.FK kE _ _ (⟨rk, rb⟩ : Ent) [.int .i64 rk, .slice Ae rb.length ce] from mk_EF _ _ _ HO1.out.1 (Kd.F_below HE7.out HB7.out)) (Reps.none _ _))
            intro v48 w8 hn48 hb8 hg8 hat8; have HN48 := Aside0.mk hn48; have HB8 := Aside0.mk hb8; have HN43b := Aside0.mk (Kd.N_grown HN43.out hg8 (fun _ _ => by simp)); clear hn48 hb8 hg8 hat8
            refine hK.out _ _ ⟨pw_cell_below HB8.out y0, pw_cell_below HB8.out y1, pw_cell_below HB8.out y2⟩ (fun hHeld => ?_)
            clear hK K
            refine norm_ (a' := ?_) ?_ ?_
            rotate_left
            · show Act.put _ (some 48) _ = _
              simp only [Act.put, List.setIfInBounds_toArray, List.set_cons_zero, List.set_cons_succ, i64_w, i32_w]
              rfl
            refine one_ (i := 3) (N := some 46) #[true, true, true, true, true, true, false, false, false] rfl rfl (one_of HT_.out (by kernel_rfl)) (by decide) (fun K hK => ?_)
            refine Kd.N_append_rows_step kE (w0 := w6) w6.heap.size rfl (.tmp 43) (.tmp 45) 23 TE (.agg #[(.int .i64 0), (.slice none 0 0)]) 32 rfl Try.underlying23 info35 rfl (by decide) (by omega) v43 [] L AL L.length cl (fun q => W.heap.size + 2 ≤ q ∧ q ≠ g5) (fun k => (fun q => W.heap.size + 2 ≤ q ∧ q ≠ g5) k ∧ some k ≠ v43.ownBlock) rfl rfl HN43b.out (Kd.F_mono (Kd.F_below HL7.out HB8.out) (fun q hq => ⟨hq.1, fun e_ => Nat.lt_irrefl _ (Nat.lt_of_lt_of_le hq.2 (Kd.N_base HN43b.out q e_.symm))⟩)) (fun _ hk => hk) (fun q hq => HFR.out q (Nat.le_trans HB8.out.size hq)) HB8.out HB8.out.size (by have := HLL.out; simp only [List.length_nil]; omega) ?_
            intro v46 w9 hn46 hb9 hg9 hat9; rw [List.nil_append] at hn46; have HN46 := Aside0.mk hn46; have HB9 := Aside0.mk hb9; have HN48b := Aside0.mk (Kd.N_after HN48.out hg9 hat9); clear hn46 hb9 hg9 hat9
            refine hK.out _ _ ⟨pw_cell_below HB9.out y0, pw_cell_below HB9.out y1, pw_cell_below HB9.out y2⟩ (fun hHeld => ?_)
            clear hK K
            refine norm_ (a' := ?_) ?_ ?_
            rotate_left
            · show Act.put _ (some 46) _ = _
              simp only [Act.put, List.setIfInBounds_toArray, List.set_cons_zero, List.set_cons_succ, i64_w, i32_w]
              rfl
            exact norm_ (by simp only [putAll, Act.put, List.setIfInBounds_toArray, List.set_cons_zero, List.set_cons_succ]) (hCont (v43, v46, v48) _ ⟨hHeld, HN46.out, HN48b.out, HB9.out⟩)
        · refine Kd.N_lit_step kE (w0 := w6) w6.heap.size TE ?hg (N' := 48) ?hd (xs := ([⟨rk, rb⟩] : List Ent)) (inner := [.int .i64 rk, .slice Ae rb.length ce]) (ok := (fun q => W.heap.size + 2 ≤ q ∧ q ≠ g5)) (okp := fun q => wr.heap.size ≤ q ∧ q < w2.heap.size) ?hr ?hp OKP.out (HFR.out _ HB6.out.size) HB6.out HB6.out.size (by simp) ?_; (case hd => rfl); (case hg => rfl); (case hr => first | (go_simp; done) | (go_simp; rfl)); (case hp => exact Reps.c2 (show Kd.FK kE _ _ (⟨rk, rb⟩ : Ent) [.int .i64 rk, .slice Ae rb.length ce] from mk_EF _ _ _ HO1.out.1 (Kd.F_below HE7.out HB6.out)) (Reps.none _ _))
          intro v48 w7 hn48 hb7 hg7 hat7; have HN48a := Aside0.mk hn48; have HB7 := Aside0.mk hb7; clear hn48 hb7 hg7 hat7
          refine hK.out _ _ ⟨pw_cell_below HB7.out y0, pw_cell_below HB7.out y1, pw_cell_below HB7.out y2⟩ (fun hHeld => ?_)
          clear hK K
          refine norm_ (a' := ?_) ?_ ?_
          rotate_left
          · show Act.put _ (some 48) _ = _
            simp only [Act.put, List.setIfInBounds_toArray, List.set_cons_zero, List.set_cons_succ, i64_w, i32_w]
            rfl
          refine one_ (i := 0) (N := some 43) #[true, true, true, false, true, true, false, false, false] rfl rfl (one_of HT_.out (by kernel_rfl)) (by decide) (fun K hK => ?_)
          refine Kd.N_lit_step kE (w0 := w6) w6.heap.size TE ?hg (N' := 43) ?hd (xs := ([] : List Ent)) (inner := []) (ok := (fun q => W.heap.size + 2 ≤ q ∧ q ≠ g5)) (okp := (fun q => W.heap.size + 2 ≤ q ∧ q ≠ g5)) ?hr ?hp (fun _ hk => hk) (HFR.out _ HB7.out.size) HB7.out HB7.out.size (by simp) ?_; (case hd => rfl); (case hg => rfl); (case hr => first | (go_simp; done) | (go_simp; rfl)); (case hp => exact (Reps.none _ _))
          intro v43 w8 hn43 hb8 hg8 hat8; have HN43b := Aside0.mk hn43; have HB8 := Aside0.mk hb8; have HN48 := Aside0.mk (Kd.N_mono (ok' := (fun q => (fun q => W.heap.size + 2 ≤ q ∧ q ≠ g5) q ∧ some q ≠ v43.ownBlock)) (Kd.N_grown (Kd.N_bound HN48a.out) hg8 (fun _ _ => by simp)) (fun q hq => ⟨hq.1, fun e_ => (by obtain ⟨b_, hb1_, hb2_⟩ := hat8; rw [hb1_] at e_; have e2_ := Option.some.inj e_; have := hq.2; omega)⟩)); clear hn43 hb8 hg8 hat8
          refine hK.out _ _ ⟨pw_cell_below HB8.out y0, pw_cell_below HB8.out y1, pw_cell_below HB8.out y2⟩ (fun hHeld => ?_)
          clear hK K
          refine norm_ (a' := ?_) ?_ ?_
          rotate_left
          · show Act.put _ (some 43) _ = _
            simp only [Act.put, List.setIfInBounds_toArray, List.set_cons_zero, List.set_cons_succ, i64_w, i32_w]
            rfl
          refine one_ (i := 3) (N := some 46) #[true, true, true, true, true, true, false, false, false] rfl rfl (one_of HT_.out (by kernel_rfl)) (by decide) (fun K hK => ?_)
          refine Kd.N_append_rows_step kE (w0 := w6) w6.heap.size rfl (.tmp 43) (.tmp 45) 23 TE (.agg #[(.int .i64 0), (.slice none 0 0)]) 32 rfl Try.underlying23 info35 rfl (by decide) (by omega) v43 [] L AL L.length cl (fun q => W.heap.size + 2 ≤ q ∧ q ≠ g5) (fun k => (fun q => W.heap.size + 2 ≤ q ∧ q ≠ g5) k ∧ some k ≠ v43.ownBlock) rfl rfl HN43b.out (Kd.F_mono (Kd.F_below HL7.out HB8.out) (fun q hq => ⟨hq.1, fun e_ => Nat.lt_irrefl _ (Nat.lt_of_lt_of_le hq.2 (Kd.N_base HN43b.out q e_.symm))⟩)) (fun _ hk => hk) (fun q hq => HFR.out q (Nat.le_trans HB8.out.size hq)) HB8.out HB8.out.size (by have := HLL.out; simp only [List.length_nil]; omega) ?_
          intro v46 w9 hn46 hb9 hg9 hat9; rw [List.nil_append] at hn46; have HN46 := Aside0.mk hn46; have HB9 := Aside0.mk hb9; have HN48b := Aside0.mk (Kd.N_after HN48.out hg9 hat9); clear hn46 hb9 hg9 hat9
          refine hK.out _ _ ⟨pw_cell_below HB9.out y0, pw_cell_below HB9.out y1, pw_cell_below HB9.out y2⟩ (fun hHeld => ?_)
          clear hK K
          refine norm_ (a' := ?_) ?_ ?_
          rotate_left
          · show Act.put _ (some 46) _ = _
            simp only [Act.put, List.setIfInBounds_toArray, List.set_cons_zero, List.set_cons_succ, i64_w, i32_w]
            rfl
          exact norm_ (by simp only [putAll, Act.put, List.setIfInBounds_toArray, List.set_cons_zero, List.set_cons_succ]) (hCont (v43, v46, v48) _ ⟨hHeld, HN46.out, HN48b.out, HB9.out⟩)
      rintro ⟨v43, v46, v48⟩ w10 ⟨hHeld, hn46, hn48, hb10⟩
      have HB10 := Aside0.mk hb10
      have HN46 := Aside0.mk hn46
      have HN48 := Aside0.mk hn48
      clear hn46 hn48 hb10
      obtain ⟨A48, c48, e48⟩ := Kd.N_slice HN48.out
      replace e48 : v48 = .slice A48 1 c48 := e48
      subst e48
      refine norm_ (a' := ?_) ?_ ?_
      rotate_left
      · simp only [putAll, Act.put, List.setIfInBounds_toArray, List.set_cons_zero, List.set_cons_succ]
        rfl
      refine one_ (i := 6) (N := some 49) #[true, true, true, true, true, true, true, false, false] rfl rfl (one_of HT_.out (by kernel_rfl)) (by decide) (fun K hK => ?_)
      refine Kd.N_append_rows_step kE (w0 := w6) w6.heap.size rfl (.tmp 46) (.tmp 48) 23 TE (.agg #[(.int .i64 0), (.slice none 0 0)]) 32 rfl Try.underlying23 info35 rfl (by decide) (by omega) v46 L [⟨rk, rb⟩] A48 1 c48 (fun q => W.heap.size + 2 ≤ q ∧ q ≠ g5) (fun k => (fun q => W.heap.size + 2 ≤ q ∧ q ≠ g5) k ∧ some k ≠ v46.ownBlock) rfl rfl HN46.out (Kd.N_F HN48.out) (fun _ hk => hk) (fun q hq => HFR.out q (Nat.le_trans HB10.out.size hq)) HB10.out HB10.out.size (by have := HLL.out; omega) ?_
      intro v49 w11 hn49 hb11 hg11 hat11; have HN49 := Aside0.mk hn49; have HB11 := Aside0.mk hb11; clear hn49 hb11 hg11 hat11
      obtain ⟨A49, n49, c49, e49⟩ : ∃ A n c, v49 = .slice A n c := by obtain ⟨A, c, e⟩ := Kd.N_slice HN49.out; exact ⟨A, _, c, e⟩
      subst e49
      refine hK.out _ _ ⟨pw_cell_below HB11.out y0, pw_cell_below HB11.out y1, pw_cell_below HB11.out y2⟩ (fun hHeld => ?_)
      clear hK K
      refine norm_ (a' := ?_) ?_ ?_
      rotate_left
      · show Act.put _ (some 49) _ = _
        simp only [Act.put, List.setIfInBounds_toArray, List.set_cons_zero, List.set_cons_succ, i64_w, i32_w]
        rfl
      refine pure_ (i := 7) (N := some 50) (v := ?_) (a' := ?_) #[true, true, true, true, true, true, true, true, false] rfl rfl (any_of HT_.out (by kernel_rfl)) (fun _ _ _ h => h) (Or.inl ⟨by rfl, ?_⟩) ?_ ?_
      rotate_left
      · intro w'
        go_simp
        with_reducible rfl
      rotate_left
      · simp only [Act.put, List.setIfInBounds_toArray, List.set_cons_zero, List.set_cons_succ, i64_w, i32_w]
        rfl
      refine last_ (i := 8) (N := none) #[true, true, true, true, true, true, true, true, true] rfl rfl (one_of HT_.out (by kernel_rfl)) (by decide) (fun K hK => ?_)
      have k11 := blk_below K56.out HB11.out
      have hs8 : w11.cell? ⟨g5, 0, none⟩ = some (.slice AL L.length cl) := (blk_cell k11 0).trans rfl
      have hf8 := blk_frozen k11 0
      refine skip_ (w1 := ?_) (by rfl) rfl ?_ ?_
      rotate_left
      · go_simp
        rfl
      refine hK.out _ _ ?_
      refine done_ (done_of HT_.out (by kernel_rfl)) ?_
      have k12 := blk_put k11 0 (.slice A49 n49 c49) rfl
      have p1 := (blk_cell k12 1).trans (show _ = some (.slice AT t.length ct) from rfl)
      have pf := blk_frozen k12 1
      have K13 := Aside0.mk (blk_put k12 1 (.slice At2 rt.length ct2) rfl)
      clear k11 k12 hK K hHeld
      go_wp2
      go_roundg q
      case measure => omega
      case rel =>
        have hw11 : Below wr.heap.size wr w11 := (HB3.out.trans (HB36.out.mono HB3.out.size)).trans (HB11.out.mono (Nat.le_trans HB3.out.size HB36.out.size))
        have hkd : Kept w11 ((w11.setCell ⟨g5, 0, none⟩ (.slice A49 n49 c49)).setCell ⟨g5, 1, none⟩ (.slice At2 rt.length ct2)) (fun q => q = g5) := Kept.setCell (S := fun q => q = g5) (p := ⟨g5, 1, none⟩) (Kept.setCell (S := fun q => q = g5) (p := ⟨g5, 0, none⟩) (Kept.refl _ _) (.inl rfl) _) (.inl rfl) _
        have h3 : W.heap.size ≠ g5 := by have h_ := HG5.out; omega
        have h4 : W.heap.size + 1 ≠ g5 := by have h_ := HG5.out; omega
        have e49 := (Kd.N_reads' HN49.out).1
        obtain ⟨L2, hL2⟩ : ∃ L2 : List Ent, L2 = L ++ [⟨rk, rb⟩] := ⟨_, rfl⟩
        have hN2 := (Kd.N_reads' HN49.out)
        have hF2 := Kd.N_F HN49.out
        rw [← hL2] at e49 hN2 hF2
        subst e49
        refine ⟨rto, rt, L2, A49, c49, At2, ct2, rfl, ?_, HFU, ?_, K13, ?_, ?_, ?_, ?_, ?_, ?_⟩
        · rw [hL2]; exact HWAY
        · rw [hL2]; exact HXX
        · exact ⟨hN2.2.1, Kd.F_kept hF2 hkd (fun q hq e_ => hq.2 e_)⟩
        · exact ⟨HO2.out.1, Kd.F_kept (Kd.F_mono (Kd.F_below HR7.out HB11.out) OKP.out) hkd (fun q hq e_ => hq.2 e_)⟩
        · exact ⟨blk_far (blk_far (blk_below K3.out hw11) h3 _) h3 _⟩
        · exact ⟨blk_far (blk_far (blk_below K4.out hw11) h4 _) h4 _⟩
        · exact ⟨below_set (below_set (HB.out.trans (hw11.mono HB.out.size)) HGE.out) HGE.out⟩
        · exact ⟨Nat.le_trans HSZ.out (Nat.le_trans hw11.size hkd.1)⟩
end Go.Proofs.Ytogjnipojakfjaa.JJour
