/- The journal: what its functions do to it. -/
import Derived.Test.YtogjnipojakfjaaJJour3
import Derived.Test.YtogjnipojakfjaaPJnx3
import Derived.Test.YtogjnipojakfjaaPJnx4
import Derived.Test.YtogjnipojakfjaaPJnx5
namespace Go.Proofs.Ytogjnipojakfjaa.JJour
open Go.RowKit Go.Proofs.Ytogjnipojakfjaa.PJn Go.Proofs.YtogjnipojakfjaaW.PrintWords Go.Proofs.YtogjnipojakfjaaW.PrintLast Go.Proofs.YtogjnipojakfjaaW.PrintMore
open LSame (Byt)
open LChain (msgS tagS zeroT)
open DDev (Dev dev_below dev_kept dev_drewN dev_mono T8 TD heldN)
set_option linter.unusedVariables false
set_option linter.unusedSimpArgs false
theorem next.yes (gj gd : Nat) (n : Nat) (hn : n < 1000000) (tag key : List Int) (At Ak : Option Addr) (ct ck : Nat) (vl : Value) (e : Ent) (Ab : Option Addr) (cb : Nat) (m : List Int × Int) (hm : m = msgS tag ((n : Int) + 1) e.f0 e.f1) (h0 : m.2 = 0) (t : List Int) (ht : t = tagS key m.1) (W : World)
    (hg : W.heap[gj]? = some (.cells #[.int .i64 (n : Int), .slice At tag.length ct, .slice Ak key.length ck, .pointer (some ⟨gd, 0, none⟩), vl] TJ (0, 0)))
    (hct : tag.length ≤ ct) (hT : Kd.C (Kd.int .u8) W At tag.length tag) (hck : key.length ≤ ck) (hK : Kd.C (Kd.int .u8) W Ak key.length key) (hcb : e.f1.length ≤ cb) (hE : Kd.C (Kd.int .u8) W Ab e.f1.length e.f1)
    (hk : Byt key) (hkl : key.length ≤ 1000) (htb : Byt tag) (heb : Byt e.f1) :
    Calls Try.prog 36 #[.pointer (some ⟨gj, 0, none⟩), .agg #[.int .i64 e.f0, .slice Ab e.f1.length cb]] W fun x w' => ∃ A c, x = .returned (.tuple #[.slice A t.length c, .int .i64 0]) ∧ t.length ≤ c ∧ Kd.F (Kd.int .u8) w' (fun q => W.heap.size ≤ q) A t.length t ∧ Below W.heap.size W w' := by
  have h := next.calls gj gd n hn tag key At Ak ct ck vl e Ab cb m hm W hg hct hT hck hK hcb hE hk hkl htb heb
  rw [show nextT key m = t from (if_pos h0).trans ht.symm, h0] at h
  exact h
theorem next.no (gj gd : Nat) (n : Nat) (hn : n < 1000000) (tag key : List Int) (At Ak : Option Addr) (ct ck : Nat) (vl : Value) (e : Ent) (Ab : Option Addr) (cb : Nat) (m : List Int × Int) (hm : m = msgS tag ((n : Int) + 1) e.f0 e.f1) (h0 : m.2 ≠ 0) (W : World)
    (hg : W.heap[gj]? = some (.cells #[.int .i64 (n : Int), .slice At tag.length ct, .slice Ak key.length ck, .pointer (some ⟨gd, 0, none⟩), vl] TJ (0, 0)))
    (hct : tag.length ≤ ct) (hT : Kd.C (Kd.int .u8) W At tag.length tag) (hck : key.length ≤ ck) (hK : Kd.C (Kd.int .u8) W Ak key.length key) (hcb : e.f1.length ≤ cb) (hE : Kd.C (Kd.int .u8) W Ab e.f1.length e.f1)
    (hk : Byt key) (hkl : key.length ≤ 1000) (htb : Byt tag) (heb : Byt e.f1) :
    Calls Try.prog 36 #[.pointer (some ⟨gj, 0, none⟩), .agg #[.int .i64 e.f0, .slice Ab e.f1.length cb]] W fun x w' => ∃ A n c, x = .returned (.tuple #[.slice A n c, .int .i64 m.2]) ∧ Below W.heap.size W w' :=
  (next.calls gj gd n hn tag key At Ak ct ck vl e Ab cb m hm W hg hct hT hck hK hcb hE hk hkl htb heb).mono fun x w' ⟨A, c, h1, _, _, h2⟩ => ⟨A, _, c, h1, h2⟩
/-- what a change leaves: the state, the blocks that were not the journal's, what lay below -/
def Post (w0 W : World) (gj gd : Nat) (O : Nat → Prop) (s : St) (w' : World) : Prop := ∃ O', Jn w' w0.heap.size gj gd O' s ∧ Kept W w' O ∧ (∀ q, q < W.heap.size → O' q → O q) ∧ Below w0.heap.size w0 w'
theorem post_below {w0 W w' : World} {gj gd : Nat} {O : Nat → Prop} {s : St} (h : Jn W w0.heap.size gj gd O s) (HB : Below w0.heap.size w0 W) (hb : Below W.heap.size W w') : Post w0 W gj gd O s w' :=
  ⟨O, jn_below h hb, Kept.of_below hb O, fun _ _ h => h, HB.trans (hb.mono HB.size)⟩
theorem size0 (w w' : World) {n : Nat} (h : Below n w w') : w.heap.size ≤ w'.heap.size := h.size
/-- the new tag lies off what is written to -/
theorem tagF {W1 w2 w3 w4 : World} {W : World} {A : Option Addr} {t : List Int} {O O4 S : Nat → Prop} {B : Nat} (h : Kd.F (Kd.int .u8) w2 (fun q => W1.heap.size ≤ q) A t.length t) (hb : Below w2.heap.size w2 w3) (hk : Kept w3 w4 S) (ho : ∀ q, q < w3.heap.size → O4 q → O q) (hO : ∀ q, O q → B ≤ q ∧ q < W.heap.size) (hS : ∀ q, S q → O q) (h1 : W.heap.size ≤ W1.heap.size) (h2 : W1.heap.size ≤ w2.heap.size) : Kd.F (Kd.int .u8) w4 (fun q => ¬ O4 q) A t.length t :=
  Kd.F_mono (Kd.F_kept (Kd.F_below (Kd.F_bound h) hb) hk (fun q hq hs => by have := hO q (hS q hs); have := hq.1; omega)) (fun q hq h4 => by have := hO q (ho q (Nat.lt_of_lt_of_le hq.2 hb.size) h4); have := hq.1; omega)
set_option maxHeartbeats 8000000 in
set_option maxRecDepth 100000 in
theorem Append.calls (w0 : World) (gj gd : Nat) (O : Nat → Prop) (s : St) (hG : Good s) (e : Ent) (heb : Byt e.f1) (Ab : Option Addr) (cb : Nat) (W : World) (h : Jn W w0.heap.size gj gd O s) (HB : Below w0.heap.size w0 W) (hcb : e.f1.length ≤ cb) (hE : Kd.F (Kd.int .u8) W (fun q => ¬ O q) Ab e.f1.length e.f1) :
    Calls Try.prog 15 #[.pointer (some ⟨gj, 0, none⟩), .agg #[.int .i64 e.f0, .slice Ab e.f1.length cb]] W fun x w' => x = .returned (.int .i64 (appS s e).1) ∧ Post w0 W gj gd O (appS s e).2 w' := by
  have hn : s.n < 1000000 := by have := hG.nb; have := hG.b0; have := hG.r1; omega
  have hL : s.L.length < 1000000 := by have := hG.nl; omega
  have hown := jn_own h
  obtain ⟨vl, At, ct, Ak, ck, h1, h2, h3, h4, h5, h6⟩ := jn_blk h
  clear h6
  obtain ⟨m, hm⟩ : ∃ m, m = msgS s.tag ((s.n : Int) + 1) e.f0 e.f1 := ⟨_, rfl⟩
  obtain ⟨W1, hW1⟩ : ∃ W1 : World, W1 = W.alloc (.cells #[.int .i64 e.f0, .slice Ab e.f1.length cb] TE) := ⟨_, rfl⟩
  have hb1 : Below W.heap.size W W1 := by rw [hW1]; exact below_alloc (Below.refl _ _) _
  have hx1 : W1.heap[W.heap.size]? = some (.cells #[.int .i64 e.f0, .slice Ab e.f1.length cb] TE (0, 0)) := by rw [hW1]; exact blk_new _ _
  have hs1 : W1.heap.size = W.heap.size + 1 := by rw [hW1]; simp
  have x0 : W1.cell? ⟨W.heap.size, 0, none⟩ = some (.int .i64 e.f0) := (blk_cell hx1 0).trans rfl
  have x1 : W1.cell? ⟨W.heap.size, 1, none⟩ = some (.slice Ab e.f1.length cb) := (blk_cell hx1 1).trans rfl
  have HX1 := Aside0.mk hx1
  have HB1 := Aside0.mk hb1
  have HS1 := Aside0.mk hs1
  have HBG := Aside0.mk (blk_below h1 hb1)
  have HT := Aside0.mk (And.intro h2 (Kd.C_below h3 hb1))
  have HK := Aside0.mk (And.intro h4 (Kd.C_below h5 hb1))
  have HE := Aside0.mk (And.intro hcb hE)
  have HEC := Aside0.mk (Kd.C_below (Kd.F_now hE) hb1)
  have HG := Aside0.mk hG
  have HN := Aside0.mk (And.intro hn hL)
  have HO := Aside0.mk hown
  have HM := Aside0.mk hm
  have HEB := Aside0.mk heb
  have HJ := Aside0.mk h
  have HB0 := Aside0.mk HB
  clear hn hL hown h1 h2 h3 h4 h5 hb1 hx1 hs1 hm heb h HB hcb hE hG
  by_cases hm0 : m.2 = 0
  case neg =>
    have hap : appS s e = (m.2, s) := by unfold appS; rw [← HM.out, if_neg hm0]
    rw [hap]
    have e1 : (m.2 != 0) = true := bne_iff_ne.mpr hm0
    have e2 : (m.2 == 0) = false := beq_eq_false_iff_ne.mpr hm0
    have HM0 := Aside0.mk hm0
    clear hm0 hap
    go_enter Try.func15, Try.ntmps15
    go_upto_region 1 with (fail)
    try simp only [← hW1]
    clear hW1
    go_wp2_with (go_at_call 36; (with_reducible refine (next.no gj gd s.n HN.out.1 s.tag s.key At Ak ct ck vl e Ab cb m HM.out HM0.out _ (blk_below HBG.out (by with_reducible repeat (first | exact Below.refl _ _ | apply below_alloc | apply below_drew))) HT.out.1 (Kd.C_below HT.out.2 (by with_reducible repeat (first | exact Below.refl _ _ | apply below_alloc | apply below_drew))) HK.out.1 (Kd.C_below HK.out.2 (by with_reducible repeat (first | exact Below.refl _ _ | apply below_alloc | apply below_drew))) HE.out.1 (Kd.C_below HEC.out (by with_reducible repeat (first | exact Below.refl _ _ | apply below_alloc | apply below_drew))) HG.out.kb HG.out.kl HG.out.tb HEB.out).mono ?_); rintro x w2 ⟨A2, n2, c2, rfl, hb2⟩; (have HB2 : Aside0 (Below W1.heap.size W1 w2) := ⟨below_step (by with_reducible repeat (first | exact Below.refl _ _ | apply below_alloc | apply below_drew)) hb2⟩); clear hb2)
    go_ret
    exact ⟨rfl, post_below HJ.out HB0.out (HB1.out.trans (HB2.out.mono HB1.out.size))⟩
  case pos =>
    obtain ⟨t, ht⟩ : ∃ t, t = tagS s.key m.1 := ⟨_, rfl⟩
    obtain ⟨f, hf⟩ : ∃ f, f = (LEnt.frS e.f0 e.f1 t).1 := ⟨_, rfl⟩
    obtain ⟨vb, hd, hss, hst⟩ := jn_dev HJ.out
    have hmi := hm0
    rw [HM.out] at hmi
    obtain ⟨mb, ml⟩ := msg_fine s.tag ((s.n : Int) + 1) e.f0 e.f1 HG.out.tb HEB.out hmi
    rw [← HM.out] at mb ml
    obtain ⟨tl, tb, tu1, tu2⟩ := LChain.tagS_spec s.key m.1 HG.out.kb HG.out.kl mb (by omega)
    rw [← ht] at tl tb
    obtain ⟨i0, i1, i2, i3⟩ := msg_inv _ _ _ _ hmi
    obtain ⟨f0, fl, fb⟩ := frS_fine e t HEB.out tl tb ⟨i1, i2, i3⟩
    have hfr : entry_Frame.f e.f0 e.f1 t = some (f, 0) := by rw [LEnt.frame_ok, hf, ← f0]
    rw [← hf] at fl
    have HFR := Aside0.mk hfr
    have HTT := Aside0.mk ht
    have HFF := Aside0.mk hf
    have HD := Aside0.mk hd
    have HSS := Aside0.mk hss
    have HST := Aside0.mk hst
    have HBL : Aside0 (s.bs.length ≤ 65536) := ⟨by have := HG.out.b0; have := HG.out.r1; omega⟩
    have HFL : Aside0 (f.length ≤ 140737488351232) := ⟨by omega⟩
    have HEL : Aside0 (e.f1.length ≤ 100000) := ⟨by omega⟩
    have HM0 := Aside0.mk hm0
    clear hfr ht hd hss hst hm0 mb ml tl tb tu1 tu2 i0 i1 i2 i3 f0 fl fb hmi
    by_cases hfull : s.room - s.bs.length < f.length
    · have hap : appS s e = (28, s) := by unfold appS; rw [← HM.out, if_pos HM0.out, ← HTT.out, ← hf, if_pos hfull]
      rw [hap]
      have HFU := Aside0.mk hfull
      clear hf hfull hap
      go_enter Try.func15, Try.ntmps15
      go_upto_region 1 with (fail)
      try simp only [← hW1]
      clear hW1
      go_wp2_with (first | (go_at_call 36; (with_reducible refine (next.yes gj gd s.n HN.out.1 s.tag s.key At Ak ct ck vl e Ab cb m HM.out HM0.out t HTT.out _ (blk_below HBG.out (by with_reducible repeat (first | exact Below.refl _ _ | apply below_alloc | apply below_drew))) HT.out.1 (Kd.C_below HT.out.2 (by with_reducible repeat (first | exact Below.refl _ _ | apply below_alloc | apply below_drew))) HK.out.1 (Kd.C_below HK.out.2 (by with_reducible repeat (first | exact Below.refl _ _ | apply below_alloc | apply below_drew))) HE.out.1 (Kd.C_below HEC.out (by with_reducible repeat (first | exact Below.refl _ _ | apply below_alloc | apply below_drew))) HG.out.kb HG.out.kl HG.out.tb HEB.out).mono ?_); rintro x w2 ⟨A2, c2, rfl, hc2, hF2, hb2⟩; (have HB2 : Aside0 (Below W1.heap.size W1 w2) := ⟨below_step (by with_reducible repeat (first | exact Below.refl _ _ | apply below_alloc | apply below_drew)) hb2⟩); (have HF2 : Aside0 (Kd.F (Kd.int .u8) w2 (fun q => W1.heap.size ≤ q) A2 t.length t) := ⟨hF2⟩); (have HC2 := Aside0.mk hc2); (have a0 := pw_cell_below HB2.out x0); (have a1 := pw_cell_below HB2.out x1); clear hb2 hF2 hc2) | (go_at_call 41; (with_reducible refine (entry_Frame.calls e.f0 Ab cb e.f1 A2 c2 t f 0 _ (Kd.C_below (Kd.C_below HEC.out HB2.out) (by with_reducible repeat (first | exact Below.refl _ _ | apply below_alloc | apply below_drew))) HE.out.1 (Kd.C_below (Kd.F_now HF2.out) (by with_reducible repeat (first | exact Below.refl _ _ | apply below_alloc | apply below_drew))) HC2.out HFR.out).mono ?_); rintro x w3 ⟨v3, rfl, ho3, hb3⟩; (obtain ⟨A3, c3, rfl⟩ := Kd.R_slice ho3); (have HB3 : Aside0 (Below w2.heap.size w2 w3) := ⟨below_step (by with_reducible repeat (first | exact Below.refl _ _ | apply below_alloc | apply below_drew)) hb3⟩); (have HR3 : Aside0 (Kd.C (Kd.int .u8) w3 A3 f.length f) := ⟨(Kd.R_reads' ho3).2.2⟩); (have HW3 : Aside0 (Below W.heap.size W w3) := ⟨HB1.out.trans ((HB2.out.trans (HB3.out.mono HB2.out.size)).mono HB1.out.size)⟩); (have z3 : w3.cell? ⟨gj, 3, none⟩ = some (.pointer (some ⟨gd, 0, none⟩)) := (blk_cell (blk_below HBG.out (HB2.out.trans (HB3.out.mono HB2.out.size))) 3).trans rfl); clear ho3 hb3) | (go_at_call 17; (with_reducible refine (DDev.Append.no gd w0.heap.size (fun k => some k = vb.ownBlock) s.room s.sure s.bs vb A3 c3 f _ (dev_below HD.out (below_step HW3.out (by with_reducible repeat (first | exact Below.refl _ _ | apply below_alloc | apply below_drew)))) HG.out.r1 HBL.out HG.out.r0 HFL.out HFU.out).mono ?_); rintro x w4 ⟨rfl, ⟨nd, rfl⟩⟩))
      go_ret
      exact ⟨rfl, post_below HJ.out HB0.out (pw_below_drewN HW3.out nd)⟩
    · have hap : appS s e = (0, { s with n := s.n + 1, tag := t, L := s.L ++ [e], bs := s.bs ++ f }) := by unfold appS; rw [← HM.out, if_pos HM0.out, ← HTT.out, ← hf, if_neg hfull]
      rw [hap]
      have HFU := Aside0.mk hfull
      clear hf hfull hap
      go_enter Try.func15, Try.ntmps15
      go_upto_region 1 with (fail)
      try simp only [← hW1]
      clear hW1
      go_wp2_with (first | (go_at_call 36; (with_reducible refine (next.yes gj gd s.n HN.out.1 s.tag s.key At Ak ct ck vl e Ab cb m HM.out HM0.out t HTT.out _ (blk_below HBG.out (by with_reducible repeat (first | exact Below.refl _ _ | apply below_alloc | apply below_drew))) HT.out.1 (Kd.C_below HT.out.2 (by with_reducible repeat (first | exact Below.refl _ _ | apply below_alloc | apply below_drew))) HK.out.1 (Kd.C_below HK.out.2 (by with_reducible repeat (first | exact Below.refl _ _ | apply below_alloc | apply below_drew))) HE.out.1 (Kd.C_below HEC.out (by with_reducible repeat (first | exact Below.refl _ _ | apply below_alloc | apply below_drew))) HG.out.kb HG.out.kl HG.out.tb HEB.out).mono ?_); rintro x w2 ⟨A2, c2, rfl, hc2, hF2, hb2⟩; (have HB2 : Aside0 (Below W1.heap.size W1 w2) := ⟨below_step (by with_reducible repeat (first | exact Below.refl _ _ | apply below_alloc | apply below_drew)) hb2⟩); (have HF2 : Aside0 (Kd.F (Kd.int .u8) w2 (fun q => W1.heap.size ≤ q) A2 t.length t) := ⟨hF2⟩); (have HC2 := Aside0.mk hc2); (have a0 := pw_cell_below HB2.out x0); (have a1 := pw_cell_below HB2.out x1); clear hb2 hF2 hc2) | (go_at_call 41; (with_reducible refine (entry_Frame.calls e.f0 Ab cb e.f1 A2 c2 t f 0 _ (Kd.C_below (Kd.C_below HEC.out HB2.out) (by with_reducible repeat (first | exact Below.refl _ _ | apply below_alloc | apply below_drew))) HE.out.1 (Kd.C_below (Kd.F_now HF2.out) (by with_reducible repeat (first | exact Below.refl _ _ | apply below_alloc | apply below_drew))) HC2.out HFR.out).mono ?_); rintro x w3 ⟨v3, rfl, ho3, hb3⟩; (obtain ⟨A3, c3, rfl⟩ := Kd.R_slice ho3); (have HB3 : Aside0 (Below w2.heap.size w2 w3) := ⟨below_step (by with_reducible repeat (first | exact Below.refl _ _ | apply below_alloc | apply below_drew)) hb3⟩); (have HR3 : Aside0 (Kd.C (Kd.int .u8) w3 A3 f.length f) := ⟨(Kd.R_reads' ho3).2.2⟩); (have HW3 : Aside0 (Below W.heap.size W w3) := ⟨HB1.out.trans ((HB2.out.trans (HB3.out.mono HB2.out.size)).mono HB1.out.size)⟩); (have z3 : w3.cell? ⟨gj, 3, none⟩ = some (.pointer (some ⟨gd, 0, none⟩)) := (blk_cell (blk_below HBG.out (HB2.out.trans (HB3.out.mono HB2.out.size))) 3).trans rfl); clear ho3 hb3) | (go_at_call 17; (with_reducible refine (DDev.Append.yes gd (fun k => some k = vb.ownBlock) s.room s.sure s.bs vb A3 c3 f w0 _ (dev_below HD.out (below_step HW3.out (by with_reducible repeat (first | exact Below.refl _ _ | apply below_alloc | apply below_drew)))) (below_step (HB0.out.trans (HW3.out.mono HB0.out.size)) (by with_reducible repeat (first | exact Below.refl _ _ | apply below_alloc | apply below_drew | apply pw_below_drewN))) (Kd.C_below HR3.out (by with_reducible repeat (first | exact Below.refl _ _ | apply below_alloc | apply below_drew))) HG.out.r1 HBL.out HG.out.r0 (by have := HFU.out; omega)).mono ?_); rintro x w4 ⟨rfl, v4, hd4, hk4, hb4⟩; (have hk4' : Kept w3 w4 (fun k => k = gd ∨ some k = vb.ownBlock) := hk4); (have hx4 : w4.heap[W.heap.size]? = some (.cells #[.int .i64 e.f0, .slice Ab e.f1.length cb] TE (0, 0)) := blk_kept (blk_below HX1.out (HB2.out.trans (HB3.out.mono HB2.out.size))) hk4' (fun hq => Nat.lt_irrefl _ (HO.out _ (HSS.out _ hq)).2)); (have y0 : w4.cell? ⟨W.heap.size, 0, none⟩ = some (.int .i64 e.f0) := (blk_cell hx4 0).trans rfl); (have y1 : w4.cell? ⟨W.heap.size, 1, none⟩ = some (.slice Ab e.f1.length cb) := (blk_cell hx4 1).trans rfl); (obtain ⟨O4, hj4, ho4⟩ := HST.out w3 HW3.out w4 v4 (s.bs ++ f) s.sure _ hd4 hk4' (fun k hk => hd4.2.2.2.1 k hk)); (have HJ4 := Aside0.mk hj4); (have HO4 := Aside0.mk ho4); (have HK4 := Aside0.mk hk4'); (have HB4 := Aside0.mk hb4); clear hd4 hk4 hk4' hb4 hx4 hj4 ho4) | (go_at_call 38; (with_reducible refine (take.calls w0.heap.size gj gd O4 { s with sure := s.sure, bs := s.bs ++ f } HN.out.1 HN.out.2 e HEL.out Ab cb t A2 c2 _ (jn_below HJ4.out (by with_reducible repeat (first | exact Below.refl _ _ | apply below_alloc | apply below_drew))) (Nat.le_trans HB4.out.size (size0 (n := w4.heap.size) w4 _ (by with_reducible repeat (first | exact Below.refl _ _ | apply below_alloc | apply below_drew)))) HE.out.1 (Kd.C_below (Kd.F_now (Kd.F_kept (Kd.F_below HE.out.2 HW3.out) HK4.out (fun q hq hS => absurd (HSS.out q hS) hq))) (by with_reducible repeat (first | exact Below.refl _ _ | apply below_alloc | apply below_drew))) HC2.out (Kd.F_below (tagF HF2.out HB3.out HK4.out HO4.out HO.out HSS.out HB1.out.size HB2.out.size) (by with_reducible repeat (first | exact Below.refl _ _ | apply below_alloc | apply below_drew)))).mono ?_); rintro x w5 ⟨rfl, O5, hj5, hk5, ho5, hb5⟩; (have HJ5 := Aside0.mk hj5); (have HK5 : Aside0 (Kept w4 w5 O4) := ⟨hk5⟩); (have HO5 : Aside0 (∀ q, q < w4.heap.size → O5 q → O4 q) := ⟨ho5⟩); (have HB5 : Aside0 (Below w0.heap.size w4 w5) := ⟨hb5⟩); clear hj5 hk5 ho5 hb5))
      go_ret
      have h34 : w3.heap.size ≤ w4.heap.size := HK4.out.1
      have h03 : W.heap.size ≤ w3.heap.size := HW3.out.size
      refine ⟨rfl, O5, HJ5.out, ?_, fun q hq h => HO4.out q (by omega) (HO5.out q (by omega) h), HB4.out.trans HB5.out⟩
      refine Kept.then_ (Kept.then_ (Kept.of_below HW3.out O) HK4.out (fun k hk => .inl (HSS.out k hk))) HK5.out (fun k hk => ?_)
      by_cases hkk : k < w3.heap.size
      · exact .inl (HO4.out k hkk hk)
      · exact .inr (by omega)
end Go.Proofs.Ytogjnipojakfjaa.JJour
