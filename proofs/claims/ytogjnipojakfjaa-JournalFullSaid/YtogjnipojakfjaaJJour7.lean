/- The journal: what its functions do to it. -/
import Derived.Test.YtogjnipojakfjaaJJour6
import Derived.Test.YtogjnipojakfjaaPJnx3
import Derived.Test.YtogjnipojakfjaaPJnx4
import Derived.Test.YtogjnipojakfjaaPJnx5
namespace Go.Proofs.Ytogjnipojakfjaa.JJour
open Go.RowKit Go.Proofs.Ytogjnipojakfjaa.PJn Go.Proofs.YtogjnipojakfjaaW.PrintWords Go.Proofs.YtogjnipojakfjaaW.PrintLast Go.Proofs.YtogjnipojakfjaaW.PrintMore
open LSame (Byt)
open LChain (msgS tagS zeroT)
open DDev (Dev dev_below dev_kept dev_drewN dev_mono T8 TD heldN)
set_option linter.unusedVariables false
set_option linter.unusedSimpArgs false
theorem dev_lower {W : World} {B B' g : Nat} {O : Nat → Prop} {room sure : Int} {bs : List Int} {v : Value} (h : Dev W B g O room sure bs v) (hb : B' ≤ B) : Dev W B' g O room sure bs v :=
  ⟨h.1, Nat.le_trans hb h.2.1, h.2.2.1, Kd.R_lower h.2.2.2 hb⟩
theorem heapI : Kd.Heap (Kd.int .u8) := Kd.heap_int .u8
/-- an entry more, told by its answer -/
theorem Append.ret (w0 : World) (gj gd : Nat) (O : Nat → Prop) (s : St) (hG : Good s) (e : Ent) (heb : Byt e.f1) (r : Int) (s' : St) (hr : appS s e = (r, s')) (Ab : Option Addr) (cb : Nat) (W : World) (h : Jn W w0.heap.size gj gd O s) (HB : Below w0.heap.size w0 W) (hcb : e.f1.length ≤ cb) (hE : Kd.F (Kd.int .u8) W (fun q => ¬ O q) Ab e.f1.length e.f1) :
    Calls Try.prog 15 #[.pointer (some ⟨gj, 0, none⟩), .agg #[.int .i64 e.f0, .slice Ab e.f1.length cb]] W fun x w' => x = .returned (.int .i64 r) ∧ Post w0 W gj gd O s' w' := by
  have h := Append.calls w0 gj gd O s hG e heb Ab cb W h HB hcb hE
  rw [hr] at h
  exact h
theorem Count.ret (B gj gd : Nat) (O : Nat → Prop) (s : St) (n : Int) (hn : (s.n : Int) = n) (W : World) (h : Jn W B gj gd O s) :
    Calls Try.prog 14 #[.pointer (some ⟨gj, 0, none⟩)] W fun x w' => x = .returned (.int .i64 n) ∧ W = w' := by
  subst hn
  exact Count.calls B gj gd O s W h
theorem same_ret (A : Option Addr) (c : Nat) (l : List Int) (A1 : Option Addr) (c1 : Nat) (l1 : List Int) (w : World) (h0 : Kd.C (Kd.int .u8) w A l.length l) (h1 : l.length ≤ c) (h2 : Kd.C (Kd.int .u8) w A1 l1.length l1) (h3 : l1.length ≤ c1) (hl : l.length ≤ 100000) (b : Bool) (hb : b = decide (l = l1)) :
    Calls Try.prog 16 #[.slice A l.length c, .slice A1 l1.length c1] w fun e w' => e = .returned (.bool b) ∧ Below w.heap.size w w' := by
  subst hb
  obtain ⟨k, hk⟩ := Ev.rounds (LSame.same_ev l l1 (by omega))
  exact (notaryref01_Same.calls k A c l A1 c1 l1 _ w h0 h1 h2 h3 hk).mono (fun e w' ⟨a, n, hb⟩ => ⟨a, by rw [hb]; exact pw_below_drewN (Below.refl _ _) n⟩)
theorem first_ret (w : World) : Calls Try.prog 26 #[] w fun e w' => ∃ A2 c2, e = .returned (.slice A2 zeroT.length c2) ∧ zeroT.length ≤ c2 ∧ Kd.C (Kd.int .u8) w' A2 zeroT.length zeroT ∧ Below w.heap.size w w' :=
  (notaryref47_First.calls zeroT w LChain.rfirst_ok).mono (fun e w' ⟨v, a, b, d⟩ => by
    obtain ⟨A2, c2, rfl, hc, hC⟩ := Kd.R_reads b
    exact ⟨A2, c2, a, hc, hC, d⟩)
theorem open_nil : openS [] 100 0 [] = { room := 100, sure := 0, bs := [], n := 0, tag := zeroT, key := [], L := [] } := by
  unfold openS
  have e : opn [] ([] : List Int) (([] : List Int).length + 1) 0 zeroT [] = ([], zeroT, 0) := by rw [opn, if_neg (by simp)]
  rw [e]
  rfl
theorem awake_app : ∃ s', appS (openS [] 100 0 []) ⟨1, []⟩ = (0, s') ∧ s'.n = 1 ∧ s'.bs.length = 37 := by
  have hG := openS_good [] 100 0 [] (by decide) (by decide) (by simp) (by decide) Byt.nil Byt.nil (by simp)
  obtain ⟨s, hs⟩ : ∃ s, s = openS [] 100 0 [] := ⟨_, rfl⟩
  rw [← hs] at hG ⊢
  rw [open_nil] at hs
  have h0 : (msgS s.tag ((s.n : Int) + 1) (⟨1, []⟩ : Ent).f0 (⟨1, []⟩ : Ent).f1).2 = 0 := by
    rw [LChain.msgS_ok s.tag _ 1 [] hG.tl (by decide) (by decide) (by simp)]
  obtain ⟨mb, ml⟩ := msg_fine s.tag ((s.n : Int) + 1) (⟨1, []⟩ : Ent).f0 (⟨1, []⟩ : Ent).f1 hG.tb Byt.nil h0
  obtain ⟨tl, tb, _, _⟩ := LChain.tagS_spec s.key _ hG.kb hG.kl mb (by omega)
  obtain ⟨_, fl, fb⟩ := frS_fine ⟨1, []⟩ _ Byt.nil tl tb ⟨by decide, by decide, by simp⟩
  unfold appS
  rw [if_pos h0, if_neg (by rw [fl, hs]; simp)]
  exact ⟨_, rfl, by rw [hs], by simp only [List.length_append, fl]; rw [hs]; rfl⟩
set_option maxHeartbeats 8000000 in
set_option maxRecDepth 100000 in
theorem awake.calls (w : World) : Calls Try.prog 9 #[] w fun e w' => e = .returned (.bool true) ∧ Below w.heap.size w w' := by
  obtain ⟨s', hs, hn, hl⟩ := awake_app
  have hG := openS_good [] 100 0 [] (by decide) (by decide) (by simp) (by decide) Byt.nil Byt.nil (by simp)
  have HA := Aside0.mk hs
  have HG := Aside0.mk hG
  have HNN : Aside0 ((s'.n : Int) = 1) := ⟨by rw [hn]; rfl⟩
  have HLL : Aside0 (s'.bs.length ≤ 65536) := ⟨by rw [hl]; decide⟩
  have e1 : ((s'.bs.length : Int) == 37) = true := by rw [hl]; rfl
  have e2 : (s'.bs.length == 37) = true := by rw [hl]; rfl
  have HRM : Aside0 (heldN 100 65536 = 100) := ⟨by decide⟩
  clear hs hG hn hl
  go_enter Try.func9, Try.ntmps9
  go_wp2_with (first | (go_at_call 11; (with_reducible refine (DDev.New.calls 100 _).mono ?_); rintro x w1 ⟨gd, rfl, hg1, hb1, hd1⟩; (rw [HRM.out] at hd1); (have HD1 : Aside0 (Dev w1 w.heap.size gd (fun _ => False) 100 0 [] (.slice none 0 0)) := ⟨hd1⟩); (have HB1 : Aside0 (Below w.heap.size w w1) := ⟨hb1⟩); clear hd1 hb1 hg1) | (go_at_call 10; (refine (Open.calls w gd (fun _ => False) 100 0 [] (.slice none 0 0) [] none 0 _ (dev_below HD1.out (by with_reducible repeat (first | exact Below.refl _ _ | apply below_alloc | apply below_drew))) (below_step HB1.out (by with_reducible repeat (first | exact Below.refl _ _ | apply below_alloc | apply below_drew))) (Nat.le_refl _) (Kd.C_nil _ _) (by decide) Byt.nil Byt.nil (by decide)).mono ?_); rintro x w2 ⟨gj, O2, rfl, hj2, hk2, ho2, hb2⟩; (have HJ2 := Aside0.mk hj2); (have HB2 := Aside0.mk hb2); clear hj2 hk2 ho2 hb2) | (go_at_call 15; (refine (Append.ret w gj gd O2 (openS [] 100 0 []) HG.out ⟨1, []⟩ Byt.nil 0 s' HA.out none 0 _ (jn_below HJ2.out (by with_reducible repeat (first | exact Below.refl _ _ | apply below_alloc | apply below_drew))) (below_step HB2.out (by with_reducible repeat (first | exact Below.refl _ _ | apply below_alloc | apply below_drew))) (Nat.le_refl _) (Kd.F_nil _ _ _)).mono ?_); rintro x w3 ⟨rfl, O3, hj3, hk3, ho3, hb3⟩; (have HJ3 := Aside0.mk hj3); (have HB3 := Aside0.mk hb3); clear hj3 hk3 ho3 hb3) | (go_at_call 14; (with_reducible refine (Count.ret w.heap.size gj gd O3 s' 1 HNN.out _ (jn_below HJ3.out (by with_reducible repeat (first | exact Below.refl _ _ | apply below_alloc | apply below_drew)))).mono ?_); rintro x w4 ⟨rfl, rfl⟩) | (go_at_call 12; (with_reducible refine (Log.calls w gj gd O3 s' HLL.out _ (jn_below HJ3.out (by with_reducible repeat (first | exact Below.refl _ _ | apply below_alloc | apply below_drew)))).mono ?_); rintro x w5 ⟨A5, c5, rfl, hc5, hF5, hb5⟩; (have HB5 := Aside0.mk hb5); clear hc5 hF5 hb5))
  go_ret
  exact ⟨rfl, HB3.out.trans (HB5.out.mono HB3.out.size)⟩
end Go.Proofs.Ytogjnipojakfjaa.JJour
