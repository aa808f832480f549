/- The walk of the law JournalVerifies. -/
import Derived.Test.YtogjnipojakfjaaJROpen
import Derived.Test.YtogjnipojakfjaaLJour
import Derived.Test.YtogjnipojakfjaaPJvx3
import Derived.Test.YtogjnipojakfjaaPJvx4
import Derived.Test.YtogjnipojakfjaaPJvx5
import Derived.Test.YtogjnipojakfjaaPJvx14
import Derived.Test.YtogjnipojakfjaaPJvx15
import Derived.Test.YtogjnipojakfjaaSOpen
/- The walk of the law JournalVerifies. -/
namespace Go.Proofs.Ytogjnipojakfjaa.JJour
open Go.RowKit Go.Proofs.Ytogjnipojakfjaa.PJv Go.Proofs.YtogjnipojakfjaaW.PrintWords Go.Proofs.YtogjnipojakfjaaW.PrintLast Go.Proofs.YtogjnipojakfjaaW.PrintMore
open LSame (Byt)
open LChain (msgS tagS zeroT Fr FrOk goodS verS)
open DDev (Dev dev_below dev_kept dev_drewN dev_mono T8 TD heldN)
set_option linter.unusedVariables false
set_option linter.unusedSimpArgs false
theorem rnew_ok : notaryref48_New.f 65536 = some (65536, 0, []) := rfl
theorem rapp_ok (b : List Int) (hb : b.length ≤ 3000) : notaryref48_Append.f 65536 0 [] b = some (65536, 0, b, 0) := by
  unfold notaryref48_Append.f
  rw [if_neg (by rw [LEv.w64 _ (by simp <;> omega) (by simp <;> omega)]; simp <;> omega)]
  simp only [Option.bind_some]
  rw [if_pos (by simp), if_pos (by simp <;> omega)]
  rfl
theorem begins_ev (l : List Int) (n : Nat) (hl : l.length ≤ 65536) : Ev (fun m => notaryref48_Begins.f m l (l.take n)) true := by
  refine Ev.congr (fun m => notaryref48_Begins.f.eq_1 ..) (LEv.pos (by rw [List.length_take]; omega) ?_)
  have e : l.take (l.take n).length = l.take n := by rw [List.length_take, ← List.take_take, List.take_length]
  rw [e]
  have := LSame.same_ev (l.take n) (l.take n) (by rw [List.length_take]; omega)
  rwa [decide_eq_true rfl] at this
theorem begins_ret (k : Nat) (A0 : Option Addr) (c0 : Nat) (l0 : List Int) (A1 : Option Addr) (c1 : Nat) (l1 : List Int) (w : World) (hr0 : Kd.C (Kd.int .u8) w A0 l0.length l0) (hc0 : l0.length ≤ c0) (hr1 : Kd.C (Kd.int .u8) w A1 l1.length l1) (hc1 : l1.length ≤ c1) (h : notaryref48_Begins.f k l0 l1 = some true) :
    Calls Try.prog 23 #[.slice A0 l0.length c0, .slice A1 l1.length c1] w fun e w' => e = .returned (.bool true) ∧ Below w.heap.size w w' :=
  (notaryref48_Begins.calls k A0 c0 l0 A1 c1 l1 true w hr0 hc0 hr1 hc1 h).mono (fun e w' ⟨a, n, hb⟩ => ⟨a, by rw [hb]; exact pw_below_drewN (Below.refl _ _) n⟩)
set_option maxHeartbeats 32000000 in
set_option maxRecDepth 100000 in
theorem verifies (w : World) (key : List Int) (Ak : Option Addr) (ck : Nat) (b : List Int) (Ab : Option Addr) (cb : Nat) (hck : key.length ≤ ck) (hK : Kd.C (Kd.int .u8) w Ak key.length key) (hkb : Byt key) (hcb : b.length ≤ cb) (hB : Kd.C (Kd.int .u8) w Ab b.length b) (hbb : Byt b) :
    Calls Try.prog 4 #[.slice Ak key.length ck, .slice Ab b.length cb] w fun x w' => x = .returned (.bool true) ∧ Below w.heap.size w w' := by
  have HCK := Aside0.mk hck
  have HKC := Aside0.mk hK
  have HKB := Aside0.mk hkb
  have HCB := Aside0.mk hcb
  have HBC := Aside0.mk hB
  have HBB := Aside0.mk hbb
  clear hck hK hkb hcb hB hbb
  by_cases hk100 : (key.length : Int) > 100
  · have hd : decide ((key.length : Int) > 100) = true := decide_eq_true hk100
    have hd2 : decide (100 < key.length) = true := decide_eq_true (by omega)
    clear hk100
    go_enter Try.func4, Try.ntmps4
    go_wp2_with (go_at_call 9; (with_reducible refine (awake.calls _).mono ?_); rintro x wa ⟨rfl, hba⟩; (have HBA : Aside0 (Below w.heap.size w wa) := ⟨below_step (by with_reducible repeat (first | exact Below.refl _ _ | apply below_alloc | apply below_drew)) hba⟩); clear hba)
    go_ret
    exact ⟨rfl, HBA.out⟩
  have hd : decide ((key.length : Int) > 100) = false := decide_eq_false hk100
  have hd2 : decide (100 < key.length) = false := decide_eq_false (by omega)
  by_cases hb3 : (b.length : Int) > 3000
  · have hd3 : decide ((b.length : Int) > 3000) = true := decide_eq_true hb3
    have hd4 : decide (3000 < b.length) = true := decide_eq_true (by omega)
    clear hk100 hb3
    go_enter Try.func4, Try.ntmps4
    go_wp2_with (go_at_call 9; (with_reducible refine (awake.calls _).mono ?_); rintro x wa ⟨rfl, hba⟩; (have HBA : Aside0 (Below w.heap.size w wa) := ⟨below_step (by with_reducible repeat (first | exact Below.refl _ _ | apply below_alloc | apply below_drew)) hba⟩); clear hba)
    go_ret
    exact ⟨rfl, HBA.out⟩
  have hd3 : decide ((b.length : Int) > 3000) = false := decide_eq_false hb3
  have hd4 : decide (3000 < b.length) = false := decide_eq_false (by omega)
  have HKL : Aside0 (key.length ≤ 1000) := ⟨by omega⟩
  have HBL : Aside0 (b.length ≤ 65536) := ⟨by omega⟩
  have HB3K : Aside0 (b.length ≤ 3000) := ⟨by omega⟩
  have HRA := Aside0.mk (rapp_ok b (by omega))
  obtain ⟨s, hs⟩ : ∃ s, s = openS key 65536 0 b := ⟨_, rfl⟩
  have hR := openS_right key 65536 0 b (by decide) (by decide) (by omega) (by decide) HBB.out HKB.out HKL.out
  rw [← hs] at hR
  have hG := hR.1
  have hb0 := hG.b0
  have hr1 := hG.r1
  have hkey : s.key = key := by rw [hs]; rfl
  have hv := LChain.rverify_ev key s.bs (s.n : Int) s.tag HKB.out HKL.out hG.bb (by omega)
  have hvb := built_ver s.key s.bs s.L s.tag hR.2 (by omega)
  rw [hkey, ← hG.nl] at hvb
  rw [hvb] at hv
  obtain ⟨kV, hkV⟩ := Ev.rounds hv
  obtain ⟨n, hn⟩ : ∃ n, s.bs = b.take n := by rw [hs]; exact ⟨_, rfl⟩
  have hbg := begins_ev b n HBL.out
  rw [← hn] at hbg
  obtain ⟨kB, hkB⟩ := Ev.rounds hbg
  have HS := Aside0.mk hs
  have HG := Aside0.mk hG
  have HV := Aside0.mk hkV
  have HBG := Aside0.mk hkB
  have HBS : Aside0 (s.bs.length ≤ 65536) := ⟨by omega⟩
  have HTL : Aside0 (s.tag.length ≤ 65536) := ⟨by rw [hG.tl]; decide⟩
  have HBF : Aside0 (Kd.F (Kd.int .u8) w (fun q => q < w.heap.size) Ab b.length b) := ⟨Kd.C_F heapI HBC.out⟩
  have HKF : Aside0 (Kd.F (Kd.int .u8) w (fun q => q < w.heap.size) Ak key.length key) := ⟨Kd.C_F heapI HKC.out⟩
  clear hk100 hb3 hs hR hG hb0 hr1 hkey hv hvb hkV hn hbg hkB
  go_enter Try.func4, Try.ntmps4
  go_upto_region 6 with (first | (go_at_call 10; (with_reducible refine (Open.calls w gd _ 65536 0 b v3 key Ak ck _ (dev_below HD3.out (by with_reducible repeat (first | exact Below.refl _ _ | apply below_alloc | apply below_drew))) (below_step HB3.out (by with_reducible repeat (first | exact Below.refl _ _ | apply below_alloc | apply below_drew))) HCK.out (Kd.C_below HKC.out (below_step HB3.out (by with_reducible repeat (first | exact Below.refl _ _ | apply below_alloc | apply below_drew)))) HBL.out HBB.out HKB.out HKL.out).mono ?_); rintro x w4 ⟨gj, O4, rfl, hj4, hk4, ho4, hb4⟩; (rw [← HS.out] at hj4); (have HJ4 := Aside0.mk hj4); (have HB4 : Aside0 (Below w.heap.size w w4) := ⟨hb4⟩); clear hj4 hk4 ho4 hb4) | (go_at_call 17; (with_reducible refine (DDev.Append.yes gd (fun _ => False) 65536 0 [] (.slice none 0 0) Ab cb b w _ (dev_below HD2.out (by with_reducible repeat (first | exact Below.refl _ _ | apply below_alloc | apply below_drew))) (below_step HB2.out (by with_reducible repeat (first | exact Below.refl _ _ | apply below_alloc | apply below_drew))) (Kd.C_below HBC.out (below_step HB2.out (by with_reducible repeat (first | exact Below.refl _ _ | apply below_alloc | apply below_drew)))) (by decide) (by decide) (by decide) (Int.not_lt.mpr (show (b.length : Int) ≤ 65536 - (([] : List Int).length : Int) from (by have h_ := HB3K.out; rw [List.length_nil]; omega)))).mono ?_); rintro x w3 ⟨rfl, v3, hd3, hk3, hb3⟩; (rw [List.nil_append] at hd3); (have HD3 := Aside0.mk hd3); (have HB3 : Aside0 (Below w.heap.size w w3) := ⟨hb3⟩); clear hd3 hk3 hb3) | (go_at_call 11; (with_reducible refine (DDev.New.calls 65536 _).mono ?_); rintro x w2 ⟨gd, rfl, hg2, hb2, hd2⟩; (rw [show heldN 65536 65536 = 65536 from rfl] at hd2); (have HB2 : Aside0 (Below w.heap.size w w2) := ⟨below_step (by with_reducible repeat (first | exact Below.refl _ _ | apply below_alloc | apply below_drew)) hb2⟩); (have HD2 : Aside0 (Dev w2 w.heap.size gd (fun _ => False) 65536 0 [] (.slice none 0 0)) := ⟨hd2⟩); clear hd2 hb2 hg2))
  go_upto_region 7 with (first | (go_at_call 18; (with_reducible refine (notaryref48_Append.calls 65536 0 (fun k_ => w4.heap.size ≤ k_) v5 [] Ab cb b 65536 0 b 0 w4 _ (below_step HB5.out (by with_reducible repeat (first | exact Below.refl _ _ | apply below_alloc | apply below_drew))) (Kd.R_below HO5.out (by with_reducible repeat (first | exact Below.refl _ _ | apply below_alloc | apply below_drew))) (fun W_ hk => Kd.F_now (Kd.F_kept (Kd.F_below HBF.out (HB4.out.trans ((below_step HB5.out (by with_reducible repeat (first | exact Below.refl _ _ | apply below_alloc | apply below_drew))).mono HB4.out.size))) hk (fun q hq h => absurd (Nat.lt_of_lt_of_le hq (Nat.le_trans HB4.out.size h)) (Nat.lt_irrefl _)))) HCB.out HRA.out).mono ?_); rintro x w6 ⟨v6, rfl, ho6, hb6, hk6⟩; (obtain ⟨A6, c6, rfl⟩ := Kd.R_slice ho6); (have HO6 : Aside0 (Kd.R (Kd.int .u8) T8 w6 w4.heap.size (fun k_ => w4.heap.size ≤ k_) (.slice A6 b.length c6) b) := ⟨Kd.R_mono (Kd.R_bound ho6) (fun _ h_ => h_.2.1)⟩); (have HB6 : Aside0 (Below w4.heap.size w4 w6) := ⟨hb6⟩); clear ho6 hb6 hk6) | (go_at_call 19; (with_reducible refine (notaryref48_New.calls 65536 65536 0 [] _ rnew_ok).mono ?_); rintro x w5 ⟨v5, rfl, ho5, hb5⟩; (have HO5 : Aside0 (Kd.R (Kd.int .u8) T8 w5 w4.heap.size (fun k_ => w4.heap.size ≤ k_) v5 []) := ⟨Kd.R_mono (Kd.R_bound ho5) (fun _ h_ => h_.2.1)⟩); (have HB5 : Aside0 (Below w4.heap.size w4 w5) := ⟨below_step (by with_reducible repeat (first | exact Below.refl _ _ | apply below_alloc | apply below_drew)) hb5⟩); clear ho5 hb5))
  obtain ⟨w7, hw7⟩ : ∃ w7 : World, w7 = w6.alloc (.cells #[.int .i64 65536, .int .i64 0, .slice A6 b.length c6] 40) := ⟨_, rfl⟩
  have hb7 : Below w6.heap.size w6 w7 := by rw [hw7]; exact below_alloc (Below.refl _ _) _
  have hx7 : w7.heap[w6.heap.size]? = some (.cells #[.int .i64 65536, .int .i64 0, .slice A6 b.length c6] 40 (0, 0)) := by rw [hw7]; exact blk_new _ _
  have u0 : w7.cell? ⟨w6.heap.size, 0, none⟩ = some (.int .i64 65536) := (blk_cell hx7 0).trans rfl
  have u1 : w7.cell? ⟨w6.heap.size, 1, none⟩ = some (.int .i64 0) := (blk_cell hx7 1).trans rfl
  have u2 : w7.cell? ⟨w6.heap.size, 2, none⟩ = some (.slice A6 b.length c6) := (blk_cell hx7 2).trans rfl
  have HB7 : Aside0 (Below w4.heap.size w4 w7) := ⟨below_step HB6.out hb7⟩
  have HO7 := Aside0.mk (Kd.R_below HO6.out hb7)
  rw [← hw7]
  clear hw7 hb7 hx7
  go_wp2_with (first | (go_at_call 9; (with_reducible refine (awake.calls _).mono ?_); rintro x wf ⟨rfl, hbf⟩; (have HBf : Aside0 (Below w4.heap.size w4 wf) := ⟨below_step (below_step HBe.out (by with_reducible repeat (first | exact Below.refl _ _ | apply below_alloc | apply below_drew))) hbf⟩); clear hbf) | (go_at_call 23; (with_reducible refine (begins_ret kB Ab cb b Ad cd s.bs _ (Kd.C_below HBC.out (HB4.out.trans ((below_step HBd.out (by with_reducible repeat (first | exact Below.refl _ _ | apply below_alloc | apply below_drew))).mono HB4.out.size))) HCB.out (Kd.C_below HCd.out.2 (by with_reducible repeat (first | exact Below.refl _ _ | apply below_alloc | apply below_drew))) HCd.out.1 HBG.out).mono ?_); rintro x we ⟨rfl, hbe⟩; (have HBe : Aside0 (Below w4.heap.size w4 we) := ⟨below_step (below_step HBd.out (by with_reducible repeat (first | exact Below.refl _ _ | apply below_alloc | apply below_drew))) hbe⟩); clear hbe) | (go_at_call 12; (with_reducible refine (Log.calls w gj gd O4 s HBS.out _ (jn_below HJ4.out (below_step HBc.out (by with_reducible repeat (first | exact Below.refl _ _ | apply below_alloc | apply below_drew))))).mono ?_); rintro x wd ⟨Ad, cd, rfl, hcd, hFd, hbd⟩; (have HCd := Aside0.mk (And.intro hcd (Kd.F_now hFd))); (have HRd : Aside0 (Below wd.heap.size wd wd) := ⟨Below.refl _ _⟩); clear hcd hFd; (have HBd : Aside0 (Below w4.heap.size w4 wd) := ⟨below_step (below_step HBc.out (by with_reducible repeat (first | exact Below.refl _ _ | apply below_alloc | apply below_drew))) hbd⟩); clear hbd) | (go_at_call 22; (with_reducible refine (notaryref47_Verify.calls kV Ak ck key Aa ca s.bs (s.n : Int) Ag cg s.tag true _ (Kd.C_below HKC.out (HB4.out.trans ((below_step HBb.out (by with_reducible repeat (first | exact Below.refl _ _ | apply below_alloc | apply below_drew))).mono HB4.out.size))) HCK.out (Kd.C_below HCa.out.2 (below_step HRb.out (by with_reducible repeat (first | exact Below.refl _ _ | apply below_alloc | apply below_drew)))) HCa.out.1 (Kd.C_below HCG.out.2 (by with_reducible repeat (first | exact Below.refl _ _ | apply below_alloc | apply below_drew))) HCG.out.1 HV.out).mono ?_); rintro x wc ⟨rfl, hbc⟩; (have HBc : Aside0 (Below w4.heap.size w4 wc) := ⟨below_step (below_step HBb.out (by with_reducible repeat (first | exact Below.refl _ _ | apply below_alloc | apply below_drew))) hbc⟩); clear hbc) | (go_at_call 13; (with_reducible refine (Tag.calls w.heap.size gj gd O4 s HTL.out _ (jn_below HJ4.out (below_step HBa.out (by with_reducible repeat (first | exact Below.refl _ _ | apply below_alloc | apply below_drew))))).mono ?_); rintro x wb ⟨Ag, cg, rfl, hcg, hFg, hbb⟩; (have HCG := Aside0.mk (And.intro hcg (Kd.F_now hFg))); (have HRb : Aside0 (Below wa.heap.size wa wb) := ⟨below_step (by with_reducible repeat (first | exact Below.refl _ _ | apply below_alloc | apply below_drew)) hbb⟩); clear hcg hFg; (have HBb : Aside0 (Below w4.heap.size w4 wb) := ⟨below_step (below_step HBa.out (by with_reducible repeat (first | exact Below.refl _ _ | apply below_alloc | apply below_drew))) hbb⟩); clear hbb) | (go_at_call 14; (with_reducible refine (Count.ret w.heap.size gj gd O4 s (s.n : Int) rfl _ (jn_below HJ4.out (below_step HBa.out (by with_reducible repeat (first | exact Below.refl _ _ | apply below_alloc | apply below_drew))))).mono ?_); rintro x wz ⟨rfl, rfl⟩) | (go_at_call 12; (with_reducible refine (Log.calls w gj gd O4 s HBS.out _ (jn_below HJ4.out (below_step HB9.out (by with_reducible repeat (first | exact Below.refl _ _ | apply below_alloc | apply below_drew))))).mono ?_); rintro x wa ⟨Aa, ca, rfl, hca, hFa, hba⟩; (have HCa := Aside0.mk (And.intro hca (Kd.F_now hFa))); (have HRa : Aside0 (Below wa.heap.size wa wa) := ⟨Below.refl _ _⟩); clear hca hFa; (have HBa : Aside0 (Below w4.heap.size w4 wa) := ⟨below_step (below_step HB9.out (by with_reducible repeat (first | exact Below.refl _ _ | apply below_alloc | apply below_drew))) hba⟩); clear hba) | (go_at_call 20; (with_reducible refine (like.calls w gj gd O4 s HG.out A0 A1 A4 c0 c1 c4 s.room s.sure _ (jn_below HJ4.out (below_step HB8.out (by with_reducible repeat (first | exact Below.refl _ _ | apply below_alloc | apply below_drew)))) H0.out.1 (Kd.C_below H0.out.2 (by with_reducible repeat (first | exact Below.refl _ _ | apply below_alloc | apply below_drew))) H1.out.1 (Kd.C_below H1.out.2 (by with_reducible repeat (first | exact Below.refl _ _ | apply below_alloc | apply below_drew))) H4.out.1 (Kd.C_below H4.out.2 (by with_reducible repeat (first | exact Below.refl _ _ | apply below_alloc | apply below_drew)))).mono ?_); rintro x w9 ⟨rfl, hb9⟩; (have HB9 : Aside0 (Below w4.heap.size w4 w9) := ⟨below_step (below_step HB8.out (by with_reducible repeat (first | exact Below.refl _ _ | apply below_alloc | apply below_drew))) hb9⟩); clear hb9) | (go_at_call 21; (with_reducible refine (ropen.calls key Ak ck 65536 0 b A6 c6 (fun k_ => w4.heap.size ≤ k_) _ HCK.out (Kd.C_below HKC.out (HB4.out.trans ((below_step HB7.out (by with_reducible repeat (first | exact Below.refl _ _ | apply below_alloc | apply below_drew))).mono HB4.out.size))) (Kd.R_reads' HO7.out).2.1 (Kd.F_below (Kd.R_F HO7.out) (by with_reducible repeat (first | exact Below.refl _ _ | apply below_alloc | apply below_drew))) HBB.out HBL.out HKB.out HKL.out (by decide) s HS.out).mono ?_); rintro x w8 ⟨A0, c0, A1, c1, A4, c4, rfl, h0_, h1_, h4_, hb8⟩; (have H0 := Aside0.mk (And.intro h0_.1 (Kd.F_now h0_.2))); (have H1 := Aside0.mk (And.intro h1_.1 (Kd.F_now h1_.2))); (have H4 := Aside0.mk (And.intro h4_.1 (Kd.F_now h4_.2))); (have HB8 : Aside0 (Below w4.heap.size w4 w8) := ⟨below_step (below_step HB7.out (by with_reducible repeat (first | exact Below.refl _ _ | apply below_alloc | apply below_drew))) hb8⟩); clear h0_ h1_ h4_ hb8))
  go_ret
  exact ⟨rfl, HB4.out.trans (HBf.out.mono HB4.out.size)⟩
theorem JournalVerifies (w : World) (A0 : Option Addr) (c0 : Nat) (l0 : List Int) (hc0 : l0.length ≤ c0) (hC0 : Kd.C (Kd.int .u8) w A0 l0.length l0) (hw0 : l0.length ≤ maxLen ∧ ∀ x ∈ l0, (Lit.int .u8 x).wf = true)
    (A1 : Option Addr) (c1 : Nat) (l1 : List Int) (hc1 : l1.length ≤ c1) (hC1 : Kd.C (Kd.int .u8) w A1 l1.length l1) (hw1 : l1.length ≤ maxLen ∧ ∀ x ∈ l1, (Lit.int .u8 x).wf = true) :
    Calls Try.prog 4 #[.slice A0 l0.length c0, .slice A1 l1.length c1] w fun x w' => x = .returned (.bool true) ∧ Below w.heap.size w w' :=
  verifies w l0 A0 c0 l1 A1 c1 hc0 hC0 (LSame.byt_u8 hw0.2) hc1 hC1 (LSame.byt_u8 hw1.2)
end Go.Proofs.Ytogjnipojakfjaa.JJour

/- The row's walk: a journal that is opened over any bytes. -/
namespace Go.Proofs.Ytogjnipojakfjaa.Walk
set_option linter.unusedVariables false
open Go.RowKit Go.Proofs.Ytogjnipojakfjaa.PJv Go.Proofs.Ytogjnipojakfjaa.SOpen Go.Proofs.YtogjnipojakfjaaW.PrintWords Go.Proofs.YtogjnipojakfjaaW.PrintLast Go.Proofs.YtogjnipojakfjaaW.PrintMore
theorem opBytes : SOpen.Op Try.prog 22 (Kd.slice 5 (Kd.int .u8)) (fun l => l.length ≤ maxLen ∧ ∀ x ∈ l, (Lit.int .u8 x).wf = true) :=
  op_mono (op_slice Try.underlying22 (by kernel_rfl) (op_int Try.underlying5)) (fun _ h => h)
theorem JournalVerifies (w : World) (A0 : Option Addr) (c0 : Nat) (l0 : List Int) (hc0 : l0.length ≤ c0) (hC0 : Kd.C (Kd.int .u8) w A0 l0.length l0) (hw0 : l0.length ≤ maxLen ∧ ∀ x ∈ l0, (Lit.int .u8 x).wf = true)
    (A1 : Option Addr) (c1 : Nat) (l1 : List Int) (hc1 : l1.length ≤ c1) (hC1 : Kd.C (Kd.int .u8) w A1 l1.length l1) (hw1 : l1.length ≤ maxLen ∧ ∀ x ∈ l1, (Lit.int .u8 x).wf = true) :
    Calls Try.prog 4 #[.slice A0 l0.length c0, .slice A1 l1.length c1] w fun x w' => x = .returned (.bool true) ∧ Below w.heap.size w w' :=
  JJour.JournalVerifies w A0 c0 l0 hc0 hC0 hw0 A1 c1 l1 hc1 hC1 hw1
end Go.Proofs.Ytogjnipojakfjaa.Walk
