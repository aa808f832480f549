/- The walk of the law JournalRecovers. -/
import Derived.Test.YtogjnipojakfjaaJJour9
import Derived.Test.YtogjnipojakfjaaLJour
import Derived.Test.YtogjnipojakfjaaPJrx3
import Derived.Test.YtogjnipojakfjaaPJrx4
import Derived.Test.YtogjnipojakfjaaPJrx5
import Derived.Test.YtogjnipojakfjaaPJrx13
import Derived.Test.YtogjnipojakfjaaPJrx14
import Derived.Test.YtogjnipojakfjaaSOpen
/- The walk of the law JournalRecovers. -/
namespace Go.Proofs.Ytogjnipojakfjaa.JJour
open Go.RowKit Go.Proofs.Ytogjnipojakfjaa.PJr Go.Proofs.YtogjnipojakfjaaW.PrintWords Go.Proofs.YtogjnipojakfjaaW.PrintLast Go.Proofs.YtogjnipojakfjaaW.PrintMore
open LSame (Byt)
open LChain (msgS tagS zeroT Fr FrOk goodS lastT verS)
open DDev (Dev dev_below dev_kept dev_drewN dev_mono T8 TD heldN)
set_option linter.unusedVariables false
set_option linter.unusedSimpArgs false
theorem open_empty (key : List Int) (room : Int) : openS key room 0 [] = { room := room, sure := 0, bs := [], n := 0, tag := zeroT, key := key, L := [] } := by
  unfold openS
  have e : opn key ([] : List Int) (([] : List Int).length + 1) 0 zeroT [] = ([], zeroT, 0) := by rw [opn, if_neg (by simp)]
  rw [e]
  rfl
theorem held_empty (key : List Int) (room : Int) (h : Good (openS key room 0 [])) : Held (openS key room 0 []) [] 0 := by
  refine ⟨h, ?_⟩
  rw [open_empty]
  exact ⟨rfl, rfl, fun f h => absurd h (by simp), rfl, rfl, Nat.le_refl _, rfl⟩
theorem alike_ret (k : Nat) (A0 : Option Addr) (c0 : Nat) (L : List Ent) (A1 : Option Addr) (c1 : Nat) (l : List Ent) (j : Nat) (hj : j ≤ l.length) (hL : L = l.take j) (w : World) (hr0 : Kd.C kE w A0 L.length L) (hc0 : L.length ≤ c0) (hr1 : Kd.C kE w A1 l.length l) (hc1 : l.length ≤ c1) (h : notaryref46_Alike.f k L L = some true) :
    Calls Try.prog 31 #[.slice A0 L.length c0, .slice A1 j c1] w fun e w' => e = .returned (.bool true) ∧ Below w.heap.size w w' := by
  subst hL
  have hl : (l.take j).length = j := by rw [List.length_take]; omega
  have := notaryref46_Alike.calls k A0 c0 (l.take j) A1 c1 (l.take j) true w hr0 hc0 (Kd.C_take hr1 hj) (by rw [hl]; omega) h
  rw [hl] at this ⊢
  exact this
set_option maxHeartbeats 32000000 in
set_option maxRecDepth 100000 in
theorem recovers (w : World) (key : List Int) (Ak : Option Addr) (ck : Nat) (l : List Ent) (Al : Option Addr) (cl : Nat) (a0 a1 : Int) (hck : key.length ≤ ck) (hK : Kd.C (Kd.int .u8) w Ak key.length key) (hkb : Byt key) (hcl : l.length ≤ cl) (hL : Kd.C kE w Al l.length l) (hlb : ∀ e ∈ l, Byt e.f1) :
    Calls Try.prog 7 #[.slice Ak key.length ck, .slice Al l.length cl, .agg #[.int .i64 a0, .int .i64 a1]] w fun x w' => x = .returned (.bool true) ∧ Below w.heap.size w w' := by
  obtain ⟨la, hla, hsa⟩ := large_ev l
  obtain ⟨k1, hk1⟩ := Ev.rounds hla
  have HK := Aside0.mk (And.intro hck hK)
  have HKB := Aside0.mk hkb
  have HL := Aside0.mk (And.intro hcl hL)
  have HLB := Aside0.mk hlb
  have HK1_ := Aside0.mk hk1
  clear hck hK hkb hcl hL hlb hla hk1
  cases la with
  | true =>
    clear hsa
    go_enter Try.func7, Try.ntmps7
    go_wp2_with (first | (go_at_call 8; (with_reducible refine (large_ret k1 Al cl l true _ (Kd.C_below HL.out.2 (by with_reducible repeat (first | exact Below.refl _ _ | apply below_alloc | apply below_drew))) HL.out.1 HK1_.out).mono ?_); rintro x w1 ⟨rfl, hb1⟩; (have HB1 : Aside0 (Below w.heap.size w w1) := ⟨below_step (by with_reducible repeat (first | exact Below.refl _ _ | apply below_alloc | apply below_drew)) hb1⟩); clear hb1) | (go_at_call 9; (with_reducible refine (awake.calls _).mono ?_); rintro x wa ⟨rfl, hba⟩; (have HBA : Aside0 (Below w1.heap.size w1 wa) := ⟨below_step (by with_reducible repeat (first | exact Below.refl _ _ | apply below_alloc | apply below_drew)) hba⟩); clear hba))
    go_ret
    exact ⟨rfl, HB1.out.trans (HBA.out.mono HB1.out.size)⟩
  | false =>
  have hl20 := hsa rfl
  by_cases hk100 : (key.length : Int) > 100
  · have hd : decide ((key.length : Int) > 100) = true := decide_eq_true hk100
    have hd2 : decide (100 < key.length) = true := decide_eq_true (by omega)
    clear hk100 hl20 hsa
    go_enter Try.func7, Try.ntmps7
    go_wp2_with (first | (go_at_call 8; (with_reducible refine (large_ret k1 Al cl l false _ (Kd.C_below HL.out.2 (by with_reducible repeat (first | exact Below.refl _ _ | apply below_alloc | apply below_drew))) HL.out.1 HK1_.out).mono ?_); rintro x w1 ⟨rfl, hb1⟩; (have HB1 : Aside0 (Below w.heap.size w w1) := ⟨below_step (by with_reducible repeat (first | exact Below.refl _ _ | apply below_alloc | apply below_drew)) hb1⟩); clear hb1) | (go_at_call 9; (with_reducible refine (awake.calls _).mono ?_); rintro x wa ⟨rfl, hba⟩; (have HBA : Aside0 (Below w1.heap.size w1 wa) := ⟨below_step (by with_reducible repeat (first | exact Below.refl _ _ | apply below_alloc | apply below_drew)) hba⟩); clear hba))
    go_ret
    exact ⟨rfl, HB1.out.trans (HBA.out.mono HB1.out.size)⟩
  have hd : decide ((key.length : Int) > 100) = false := decide_eq_false hk100
  have hd2 : decide (100 < key.length) = false := decide_eq_false (by omega)
  have HL20 := Aside0.mk hl20
  have HKL : Aside0 (key.length ≤ 1000) := ⟨by omega⟩
  obtain ⟨W1, hW1⟩ : ∃ W1 : World, W1 = w.alloc (.cells #[.int .i64 a0, .int .i64 a1] 60) := ⟨_, rfl⟩
  have hb1 : Below w.heap.size w W1 := by rw [hW1]; exact below_alloc (Below.refl _ _) _
  have hx1 : W1.heap[w.heap.size]? = some (.cells #[.int .i64 a0, .int .i64 a1] 60 (0, 0)) := by rw [hW1]; exact blk_new _ _
  have z0 : W1.cell? ⟨w.heap.size, 0, none⟩ = some (.int .i64 a0) := (blk_cell hx1 0).trans rfl
  have z1 : W1.cell? ⟨w.heap.size, 1, none⟩ = some (.int .i64 a1) := (blk_cell hx1 1).trans rfl
  have HB0 := Aside0.mk hb1
  have HCK := Aside0.mk HK.out.1
  have HCL := Aside0.mk HL.out.1
  have HK1 : Aside0 (Kd.C (Kd.int .u8) W1 Ak key.length key) := ⟨Kd.C_below HK.out.2 hb1⟩
  have HL1 : Aside0 (Kd.C kE W1 Al l.length l) := ⟨Kd.C_below HL.out.2 hb1⟩
  have HG0 := Aside0.mk (openS_good key 65536 0 [] (by decide) (by decide) (by simp) (by decide) Byt.nil HKB.out HKL.out)
  clear hk100 hl20 hsa hb1 hx1 HK HL
  go_enter Try.func7, Try.ntmps7
  go_upto_region 1 with (fail)
  try simp only [← hW1]
  clear hW1
  go_wp2_with (first | (go_at_call 10; (with_reducible refine (Open.calls W1 gd (fun _ => False) 65536 0 [] (.slice none 0 0) key Ak ck _ (dev_below HD2.out (by with_reducible repeat (first | exact Below.refl _ _ | apply below_alloc | apply below_drew))) (below_step HW2.out (by with_reducible repeat (first | exact Below.refl _ _ | apply below_alloc | apply below_drew))) HCK.out (Kd.C_below (Kd.C_below HK1.out HW2.out) (by with_reducible repeat (first | exact Below.refl _ _ | apply below_alloc | apply below_drew))) (by decide) Byt.nil HKB.out HKL.out).mono ?_); rintro x w3 ⟨gj, O3, rfl, hj3, hk3, ho3, hb3⟩; (have HJ3 := Aside0.mk hj3); (have HW3 := Aside0.mk hb3); clear hj3 hk3 ho3 hb3) | (go_at_call 11; (with_reducible refine (DDev.New.calls 65536 _).mono ?_); rintro x w2 ⟨gd, rfl, hg2, hb2, hd2⟩; (rw [show heldN 65536 65536 = 65536 from rfl] at hd2); (have HW2 : Aside0 (Below W1.heap.size W1 w2) := ⟨HW1.out.trans (Below.mono (below_step (by with_reducible repeat (first | exact Below.refl _ _ | apply below_alloc | apply below_drew)) hb2) HW1.out.size)⟩); (have HD2 : Aside0 (Dev w2 W1.heap.size gd (fun _ => False) 65536 0 [] (.slice none 0 0)) := ⟨dev_lower hd2 HW1.out.size⟩); clear hd2 hb2 hg2) | (go_at_call 8; (with_reducible refine (large_ret k1 Al cl l false _ (Kd.C_below HL1.out (by with_reducible repeat (first | exact Below.refl _ _ | apply below_alloc | apply below_drew))) HCL.out HK1_.out).mono ?_); rintro x w1 ⟨rfl, hb1⟩; (have HW1 : Aside0 (Below W1.heap.size W1 w1) := ⟨below_step (by with_reducible repeat (first | exact Below.refl _ _ | apply below_alloc | apply below_drew)) hb1⟩); clear hb1))
  go_loopg [9, 10] l.length (fun q v9 v10 w' => ∃ (i k : Nat) (s : St) (F : List Fr) (O : Nat → Prop), v9 = .int .i64 (k : Int) ∧ v10 = .int .i64 (i : Int) ∧ i + q = l.length ∧ Aside0 (Jn w' W1.heap.size gj gd O s) ∧ Aside0 (Held s F k) ∧ Aside0 (F.map (·.1) = l.take i ∧ s.key = key ∧ s.room = 65536) ∧ Aside0 (Below W1.heap.size W1 w'))
  case atStart => exact ⟨0, 0, openS key 65536 0 [], [], O3, rfl, rfl, by omega, HJ3, ⟨held_empty key 65536 HG0.out⟩, ⟨rfl, rfl, rfl⟩, HW3⟩
  case round =>
    clear HJ3 HW3 HD2 HW2 HW1 HG0
    obtain ⟨i, k, s, F, O, rfl, rfl, hiq, HJ, HH, HM, HWr⟩ := hrel
    cases gk with
    | zero =>
      have d1 : decide ((i : Int) < (l.length : Int)) = false := decide_eq_false (by omega)
      have d2 : decide (i < l.length) = false := decide_eq_false (by omega)
      have hFl : F.map (·.1) = l := by rw [HM.out.1, List.take_of_length_le (by omega)]
      have hFn : F.length = l.length := by rw [← hFl, List.length_map]
      obtain ⟨vb, hd_, _, _⟩ := jn_dev HJ.out
      have HD := Aside0.mk hd_
      have HG : Aside0 (Good s) := ⟨And.left HH.out⟩
      have HBS : Aside0 (s.bs.length ≤ 65536) := ⟨by have := HG.out.b0; have := HG.out.r1; omega⟩
      have hq0 : 0 ≤ heldN a1 (s.bs.length - s.sure) := by have := HG.out.s1; unfold heldN mn mx; split <;> split <;> omega
      obtain ⟨mm, hmm⟩ : ∃ mm : Nat, (s.sure + heldN a1 (s.bs.length - s.sure)).toNat = mm := ⟨_, rfl⟩
      have hms : s.sure ≤ mm := by omega
      obtain ⟨j, hkj, hjF, hL2, hn2, hR2, hb2⟩ := held_crash s F k mm ((s.bs.take mm).length : Int) HH.out (by have := HL20.out; omega) hms (by omega)
      rw [HM.out.2.1, hFl] at hL2
      rw [HM.out.2.1] at hn2 hR2 hb2
      obtain ⟨s2, hs2⟩ : ∃ s2, s2 = openS key s.room ((s.bs.take mm).length : Int) (s.bs.take mm) := ⟨_, rfl⟩
      rw [← hs2] at hL2 hn2 hR2 hb2
      have hr2 : s2.room = 65536 := by rw [hs2]; exact HM.out.2.2
      have hk2 : s2.key = key := by rw [hs2]; rfl
      obtain ⟨s3, hap, hn3, hR3, hk3⟩ := app_fits s2 hR2 hb2 hr2
      have HMM := Aside0.mk hmm
      have HS2 := Aside0.mk hs2
      have HT : Aside0 ((s.bs.take mm).length ≤ 65536 ∧ Byt (s.bs.take mm)) := ⟨by rw [List.length_take]; have := HBS.out; omega, HG.out.bb.take mm⟩
      have HN2 : Aside0 ((s2.n : Int) = (j : Int)) := ⟨by rw [hn2]⟩
      have HN3 : Aside0 ((s3.n : Int) = ((j : Int) + 1)) := ⟨by rw [hn3, hn2]; rfl⟩
      have HL2 := Aside0.mk hL2
      have HJL : Aside0 (j ≤ l.length) := ⟨by omega⟩
      have HE2 : Aside0 (s2.L.length < 1000000 ∧ ∀ e ∈ s2.L, e.f1.length ≤ 100000) := ⟨by rw [hL2, List.length_take]; have := HL20.out; omega, fun e he => by have := (hR2.1.le e he).2; omega⟩
      have HR2 := Aside0.mk hR2
      have HAP := Aside0.mk hap
      have HBL : Aside0 (s2.bs.length ≤ 65536) := ⟨by omega⟩
      have HTL : Aside0 (s2.tag.length ≤ 65536) := ⟨by rw [hR2.1.tl]; decide⟩
      have HBL3 : Aside0 (s3.bs.length ≤ 65536) := ⟨by have := hR3.1.b0; have := hR3.1.r1; omega⟩
      have HTL3 : Aside0 (s3.tag.length ≤ 65536) := ⟨by rw [hR3.1.tl]; decide⟩
      obtain ⟨k2, hk2_⟩ := Ev.rounds (LChain.alike_self s2.L (fun e he => (hR2.1.le e he).2) (by have := HE2.out.1; omega))
      have HK2 := Aside0.mk hk2_
      have hv2 := LChain.rverify_ev key s2.bs (j : Int) s2.tag HKB.out HKL.out hR2.1.bb (by omega)
      have hvb := built_ver s2.key s2.bs s2.L s2.tag hR2.2 (by omega)
      rw [hk2, show (s2.L.length : Int) = (j : Int) by rw [hL2, List.length_take]; omega] at hvb
      rw [hvb] at hv2
      obtain ⟨k3, hk3_⟩ := Ev.rounds hv2
      have HK3 := Aside0.mk hk3_
      have hv3 := LChain.rverify_ev key s3.bs ((j : Int) + 1) s3.tag HKB.out HKL.out hR3.1.bb (by have := HBL3.out; omega)
      have hvc := built_ver s3.key s3.bs s3.L s3.tag hR3.2 (by have := HBL3.out; omega)
      rw [hk3, hk2, show (s3.L.length : Int) = ((j : Int) + 1) by rw [← hR3.1.nl, hn3, hn2]; rfl] at hvc
      rw [hvc] at hv3
      obtain ⟨k4, hk4_⟩ := Ev.rounds hv3
      have HK4 := Aside0.mk hk4_
      have y1 : wr.cell? ⟨w.heap.size, 1, none⟩ = some (.int .i64 a1) := pw_cell_below HWr.out z1
      have e1 : decide ((j : Int) < (k : Int)) = false := decide_eq_false (by omega)
      have e2 : decide ((j : Int) > (l.length : Int)) = false := decide_eq_false (by omega)
      have e2' : decide ((l.length : Int) < (j : Int)) = false := decide_eq_false (by omega)
      have e3 : decide (j < k) = false := decide_eq_false (by omega)
      have e4 : decide (l.length < j) = false := decide_eq_false (by omega)
      have e5 : (k ≤ j) = True := eq_true hkj
      have e6 : (j ≤ l.length) = True := eq_true (by omega)
      have p0 : 0 ≤ (j : Int) := by omega
      have p1 : (j : Int) ≤ (cl : Int) := by have := HCL.out; omega
      have hwj : IntKind.i64.wrap ((j : Int) + 1) = ((j : Int) + 1) := IntWalk.i64_in _ (by have := HL20.out; omega)
      clear hFl hFn hd_ hq0 hmm hms hkj hjF hL2 hn2 hR2 hb2 hs2 hr2 hk2 hap hn3 hR3 hk3 hk2_ hv2 hvb hk3_ hv3 hvc hk4_ hiq z0 z1
      go_upto_region 20 with (first | (go_at_call 22; (with_reducible refine (notaryref47_Verify.calls k3 Ak ck key A7 c7 s2.bs (j : Int) A8 c8 s2.tag true _ (Kd.C_below (Kd.C_below HK1.out HW8.out) (by with_reducible repeat (first | exact Below.refl _ _ | apply below_alloc | apply below_drew))) HCK.out (Kd.C_below (Kd.C_below HC7.out.2 HB8.out) (by with_reducible repeat (first | exact Below.refl _ _ | apply below_alloc | apply below_drew))) HC7.out.1 (Kd.C_below HC8.out.2 (by with_reducible repeat (first | exact Below.refl _ _ | apply below_alloc | apply below_drew))) HC8.out.1 HK3.out).mono ?_); rintro x w9 ⟨rfl, hb9⟩; (have HB9 : Aside0 (Below w8.heap.size w8 w9) := ⟨below_step (by with_reducible repeat (first | exact Below.refl _ _ | apply below_alloc | apply below_drew)) hb9⟩); (have HW9 : Aside0 (Below W1.heap.size W1 w9) := ⟨HW8.out.trans (HB9.out.mono HW8.out.size)⟩); (have HJ9 : Aside0 (Jn w9 W1.heap.size gj2 gd O3 s2) := ⟨jn_below HJ8.out HB9.out⟩); clear hb9) | (go_at_call 13; (with_reducible refine (Tag.calls W1.heap.size gj2 gd O3 s2 HTL.out _ (jn_below HJ7.out (by with_reducible repeat (first | exact Below.refl _ _ | apply below_alloc | apply below_drew)))).mono ?_); rintro x w8 ⟨A8, c8, rfl, hc8, hF8, hb8⟩; (have HC8 := Aside0.mk (And.intro hc8 (Kd.F_now hF8))); clear hc8 hF8; (have HB8 : Aside0 (Below w7.heap.size w7 w8) := ⟨below_step (by with_reducible repeat (first | exact Below.refl _ _ | apply below_alloc | apply below_drew)) hb8⟩); (have HW8 : Aside0 (Below W1.heap.size W1 w8) := ⟨HW7.out.trans (HB8.out.mono HW7.out.size)⟩); (have HJ8 : Aside0 (Jn w8 W1.heap.size gj2 gd O3 s2) := ⟨jn_below HJ7.out HB8.out⟩); clear hb8) | (go_at_call 14; (with_reducible refine (Count.ret W1.heap.size gj2 gd O3 s2 (j : Int) HN2.out _ (jn_below HJ7.out (by with_reducible repeat (first | exact Below.refl _ _ | apply below_alloc | apply below_drew)))).mono ?_); rintro x wz ⟨rfl, rfl⟩) | (go_at_call 12; (with_reducible refine (Log.calls W1 gj2 gd O3 s2 HBL.out _ (jn_below HJ6.out (by with_reducible repeat (first | exact Below.refl _ _ | apply below_alloc | apply below_drew)))).mono ?_); rintro x w7 ⟨A7, c7, rfl, hc7, hF7, hb7⟩; (have HC7 := Aside0.mk (And.intro hc7 (Kd.F_now hF7))); clear hc7 hF7; (have HB7 : Aside0 (Below w6.heap.size w6 w7) := ⟨below_step (by with_reducible repeat (first | exact Below.refl _ _ | apply below_alloc | apply below_drew)) hb7⟩); (have HW7 : Aside0 (Below W1.heap.size W1 w7) := ⟨HW6.out.trans (HB7.out.mono HW6.out.size)⟩); (have HJ7 : Aside0 (Jn w7 W1.heap.size gj2 gd O3 s2) := ⟨jn_below HJ6.out HB7.out⟩); clear hb7) | (go_at_call 31; (refine (alike_ret k2 A5 c5 s2.L Al cl l j HJL.out HL2.out _ (Kd.C_below HC5.out.2 (by with_reducible repeat (first | exact Below.refl _ _ | apply below_alloc | apply below_drew))) HC5.out.1 (Kd.C_below (Kd.C_below HL1.out HW5.out) (by with_reducible repeat (first | exact Below.refl _ _ | apply below_alloc | apply below_drew))) HCL.out HK2.out).mono ?_); rintro x w6 ⟨rfl, hb6⟩; (have HB6 : Aside0 (Below w5.heap.size w5 w6) := ⟨below_step (by with_reducible repeat (first | exact Below.refl _ _ | apply below_alloc | apply below_drew)) hb6⟩); (have HW6 : Aside0 (Below W1.heap.size W1 w6) := ⟨HW5.out.trans (HB6.out.mono HW5.out.size)⟩); (have HJ6 : Aside0 (Jn w6 W1.heap.size gj2 gd O3 s2) := ⟨jn_below HJ5.out HB6.out⟩); clear hb6) | (go_at_call 14; (with_reducible refine (Count.ret W1.heap.size gj2 gd O3 s2 (j : Int) HN2.out _ (jn_below HJ5.out (by with_reducible repeat (first | exact Below.refl _ _ | apply below_alloc | apply below_drew)))).mono ?_); rintro x wz ⟨rfl, rfl⟩) | (go_at_call 25; (with_reducible refine (Entries.calls W1.heap.size gj2 gd O3 s2 HE2.out.1 HE2.out.2 _ (jn_below HJ3.out (by with_reducible repeat (first | exact Below.refl _ _ | apply below_alloc | apply below_drew)))).mono ?_); rintro x w5 ⟨A5, c5, rfl, hc5, hC5, hb5⟩; (have HC5 := Aside0.mk (And.intro hc5 hC5)); clear hc5 hC5; (have HB5 : Aside0 (Below w3.heap.size w3 w5) := ⟨below_step (by with_reducible repeat (first | exact Below.refl _ _ | apply below_alloc | apply below_drew)) hb5⟩); (have HW5 : Aside0 (Below W1.heap.size W1 w5) := ⟨HW3.out.trans (HB5.out.mono HW3.out.size)⟩); (have HJ5 : Aside0 (Jn w5 W1.heap.size gj2 gd O3 s2) := ⟨jn_below HJ3.out HB5.out⟩); clear hb5) | (go_at_call 14; (with_reducible refine (Count.ret W1.heap.size gj2 gd O3 s2 (j : Int) HN2.out _ (jn_below HJ3.out (by with_reducible repeat (first | exact Below.refl _ _ | apply below_alloc | apply below_drew)))).mono ?_); rintro x wz ⟨rfl, rfl⟩) | (go_at_call 10; (with_reducible refine (Open.calls W1 gd _ s.room ((s.bs.take mm).length : Int) (s.bs.take mm) v2 key Ak ck _ (dev_below HD2.out (by with_reducible repeat (first | exact Below.refl _ _ | apply below_alloc | apply below_drew))) (below_step HW2.out (by with_reducible repeat (first | exact Below.refl _ _ | apply below_alloc | apply below_drew))) HCK.out (Kd.C_below (Kd.C_below HK1.out HW2.out) (by with_reducible repeat (first | exact Below.refl _ _ | apply below_alloc | apply below_drew))) HT.out.1 HT.out.2 HKB.out HKL.out).mono ?_); rintro x w3 ⟨gj2, O3, rfl, hj3, hk3, ho3, hb3⟩; (rw [← HS2.out] at hj3); (have HJ3 := Aside0.mk hj3); (have HW3 : Aside0 (Below W1.heap.size W1 w3) := ⟨hb3⟩); clear hj3 hk3 ho3 hb3) | (go_at_call 30; (with_reducible refine (DDev.Crash.calls gd _ s.room s.sure s.bs vb a1 W1 _ (dev_below HD.out (by with_reducible repeat (first | exact Below.refl _ _ | apply below_alloc | apply below_drew))) (below_step HWr.out (by with_reducible repeat (first | exact Below.refl _ _ | apply below_alloc | apply below_drew))) HBS.out HG.out.s0 HG.out.s1).mono ?_); rintro x w2 ⟨rfl, v2, hd2, ho2, hk2, hb2⟩; (rw [HMM.out] at hd2); (have HD2 := Aside0.mk hd2); (have HW2 : Aside0 (Below W1.heap.size W1 w2) := ⟨hb2⟩); clear hd2 ho2 hk2 hb2))
      go_wp2_with (first | (go_at_call 9; (with_reducible refine (awake.calls _).mono ?_); rintro x wf ⟨rfl, hbf⟩; (have HBf : Aside0 (Below we.heap.size we wf) := ⟨below_step (by with_reducible repeat (first | exact Below.refl _ _ | apply below_alloc | apply below_drew)) hbf⟩); (have HWf : Aside0 (Below W1.heap.size W1 wf) := ⟨HWe.out.trans (HBf.out.mono HWe.out.size)⟩); clear hbf) | (go_at_call 22; (with_reducible refine (notaryref47_Verify.calls k4 Ak ck key Ac cc s3.bs ((j : Int) + 1) Ad cd s3.tag true _ (Kd.C_below (Kd.C_below HK1.out HWd.out) (by with_reducible repeat (first | exact Below.refl _ _ | apply below_alloc | apply below_drew))) HCK.out (Kd.C_below (Kd.C_below HCc.out.2 HBd.out) (by with_reducible repeat (first | exact Below.refl _ _ | apply below_alloc | apply below_drew))) HCc.out.1 (Kd.C_below HCd.out.2 (by with_reducible repeat (first | exact Below.refl _ _ | apply below_alloc | apply below_drew))) HCd.out.1 HK4.out).mono ?_); rintro x we ⟨rfl, hbe⟩; (have HBe : Aside0 (Below wd.heap.size wd we) := ⟨below_step (by with_reducible repeat (first | exact Below.refl _ _ | apply below_alloc | apply below_drew)) hbe⟩); (have HWe : Aside0 (Below W1.heap.size W1 we) := ⟨HWd.out.trans (HBe.out.mono HWd.out.size)⟩); (have HJe : Aside0 (Jn we W1.heap.size gj2 gd O4 s3) := ⟨jn_below HJd.out HBe.out⟩); clear hbe) | (go_at_call 13; (with_reducible refine (Tag.calls W1.heap.size gj2 gd O4 s3 HTL3.out _ (jn_below HJc.out (by with_reducible repeat (first | exact Below.refl _ _ | apply below_alloc | apply below_drew)))).mono ?_); rintro x wd ⟨Ad, cd, rfl, hcd, hFd, hbd⟩; (have HCd := Aside0.mk (And.intro hcd (Kd.F_now hFd))); clear hcd hFd; (have HBd : Aside0 (Below wc.heap.size wc wd) := ⟨below_step (by with_reducible repeat (first | exact Below.refl _ _ | apply below_alloc | apply below_drew)) hbd⟩); (have HWd : Aside0 (Below W1.heap.size W1 wd) := ⟨HWc.out.trans (HBd.out.mono HWc.out.size)⟩); (have HJd : Aside0 (Jn wd W1.heap.size gj2 gd O4 s3) := ⟨jn_below HJc.out HBd.out⟩); clear hbd) | (go_at_call 12; (with_reducible refine (Log.calls W1 gj2 gd O4 s3 HBL3.out _ (jn_below HJb.out (by with_reducible repeat (first | exact Below.refl _ _ | apply below_alloc | apply below_drew)))).mono ?_); rintro x wc ⟨Ac, cc, rfl, hcc, hFc, hbc⟩; (have HCc := Aside0.mk (And.intro hcc (Kd.F_now hFc))); clear hcc hFc; (have HBc : Aside0 (Below wb.heap.size wb wc) := ⟨below_step (by with_reducible repeat (first | exact Below.refl _ _ | apply below_alloc | apply below_drew)) hbc⟩); (have HWc : Aside0 (Below W1.heap.size W1 wc) := ⟨HWb.out.trans (HBc.out.mono HWb.out.size)⟩); (have HJc : Aside0 (Jn wc W1.heap.size gj2 gd O4 s3) := ⟨jn_below HJb.out HBc.out⟩); clear hbc) | (go_at_call 14; (with_reducible refine (Count.ret W1.heap.size gj2 gd O4 s3 ((j : Int) + 1) HN3.out _ (jn_below HJb.out (by with_reducible repeat (first | exact Below.refl _ _ | apply below_alloc | apply below_drew)))).mono ?_); rintro x wz ⟨rfl, rfl⟩) | (go_at_call 15; (refine (Append.ret W1 gj2 gd O3 s2 HR2.out.1 ⟨1, [5]⟩ (Byt.cons (by decide) (by decide) Byt.nil) 0 s3 HAP.out Aa ca _ (jn_below HJa.out (by with_reducible repeat (first | exact Below.refl _ _ | apply below_alloc | apply below_drew))) (below_step HWa.out (by with_reducible repeat (first | exact Below.refl _ _ | apply below_alloc | apply below_drew))) (Kd.R_reads' HOA.out).2.1 (Kd.F_below (Kd.F_mono (Kd.R_F (Kd.R_bound HOA.out)) (fun q hq h => Nat.lt_irrefl _ (Nat.lt_of_lt_of_le (jn_own HJ9.out q h).2 hq.2.1))) (by with_reducible repeat (first | exact Below.refl _ _ | apply below_alloc | apply below_drew)))).mono ?_); rintro x wb ⟨rfl, O4, hj4, hk4, ho4, hb4⟩; (have HJb := Aside0.mk hj4); (have HWb : Aside0 (Below W1.heap.size W1 wb) := ⟨hb4⟩); clear hj4 hk4 ho4 hb4) | ((with_reducible refine gate_dst (N := 94) rfl ?_); refine Kd.R_lit (Kd.int .u8) (w0 := w9) w9.heap.size 5 ?hg (N := 94) ?hd (xs := ([5] : List Int)) (inner := [.int .u8 5]) (ok := fun _ => True) (okp := fun _ => True) ?hr ?hp (fun _ hk => hk) trivial (Below.refl _ _) (Nat.le_refl _) (by simp) ?_; (case hd => rfl); (case hg => rfl); (case hr => first | (go_simp; done) | (go_simp; rfl) | (go_simp; exact ⟨rfl, rfl⟩)); (case hp => exact Reps.one rfl (Reps.none _ _)); intro va wa hoa hba hga hata; (obtain ⟨Aa, ca, rfl⟩ := Kd.R_slice hoa); (have HOA : Aside0 (Kd.R (Kd.int .u8) T8 wa w9.heap.size (fun _ => True) (.slice Aa ([5] : List Int).length ca) [5]) := ⟨hoa⟩); clear hoa hga hata; (have HBa : Aside0 (Below w9.heap.size w9 wa) := ⟨below_step (by with_reducible repeat (first | exact Below.refl _ _ | apply below_alloc | apply below_drew)) hba⟩); (have HWa : Aside0 (Below W1.heap.size W1 wa) := ⟨HW9.out.trans (HBa.out.mono HW9.out.size)⟩); (have HJa : Aside0 (Jn wa W1.heap.size gj2 gd O3 s2) := ⟨jn_below HJ9.out HBa.out⟩); clear hba) | (go_at_call 14; (with_reducible refine (Count.ret W1.heap.size gj2 gd O3 s2 (j : Int) HN2.out _ (jn_below HJ9.out (by with_reducible repeat (first | exact Below.refl _ _ | apply below_alloc | apply below_drew)))).mono ?_); rintro x wz ⟨rfl, rfl⟩))
      go_ret
      exact ⟨rfl, HB0.out.trans (HWf.out.mono HB0.out.size)⟩
    | succ q =>
      have d1 : decide ((i : Int) < (l.length : Int)) = true := decide_eq_true (by omega)
      have d2 : decide (i < l.length) = true := decide_eq_true (by omega)
      have p0 : 0 ≤ (i : Int) := by omega
      have p1 : (i : Int) < (l.length : Int) := by omega
      have hw1 : IntKind.i64.wrap ((i : Int) + 1) = ((i + 1 : Nat) : Int) := by rw [IntWalk.i64_in _ (by have := HL20.out; omega)]; omega
      obtain ⟨ad, Ax, cx, ea, m0, m1, hlx, hcx⟩ := at_T35 HL1.out (i : Int) p0 p1
      obtain ⟨e, he⟩ : ∃ e, e = rd_T35 l (i : Int) := ⟨_, rfl⟩
      have hsn := take_snoc l i (by omega)
      have heb : Byt e.f1 := by
        rw [he]
        unfold rd_T35
        rw [Int.toNat_natCast, List.getD_eq_getElem?_getD, List.getElem?_eq_getElem (show i < l.length by omega)]
        exact HLB.out _ (List.getElem_mem _)
      rw [← he] at m0 m1 hlx hcx hsn
      rw [Int.toNat_natCast] at m0 m1
      subst ea
      have n0 := pw_cell_below HWr.out m0
      have n1 := pw_cell_below HWr.out m1
      have HX := Aside0.mk (And.intro hlx (Kd.C_F heapI hcx))
      have HEB := Aside0.mk heb
      have HSN := Aside0.mk hsn
      have HO := Aside0.mk (jn_own HJ.out)
      have HG : Aside0 (Good s) := ⟨And.left HH.out⟩
      have HIQ := Aside0.mk hiq
      have hFi : F.length = i := by have := congrArg List.length HM.out.1; rw [List.length_map, List.length_take] at this; omega
      have HFI := Aside0.mk hFi
      clear he m0 m1 hlx hcx heb hsn hiq hFi
      replace p0 := eq_true p0
      replace p1 := eq_true p1
      rcases appS_cases s e with ⟨r, hr0, hap⟩ | ⟨s', hap, hsn⟩
      · have HAP := Aside0.mk hap
        have e1 : (r != 0) = true := bne_iff_ne.mpr hr0
        have e2 : (r == 0) = false := beq_eq_false_iff_ne.mpr hr0
        clear hap hr0
        go_wp2_with (first | (go_at_call 9; (with_reducible refine (awake.calls _).mono ?_); rintro x wa ⟨rfl, hba⟩; (have HBA : Aside0 (Below w6.heap.size w6 wa) := ⟨below_step (by with_reducible repeat (first | exact Below.refl _ _ | apply below_alloc | apply below_drew)) hba⟩); clear hba) | (go_at_call 15; (with_reducible refine (Append.ret W1 gj gd O s HG.out e HEB.out r s HAP.out Ax cx _ (jn_below HJ.out (by with_reducible repeat (first | exact Below.refl _ _ | apply below_alloc | apply below_drew))) (below_step HWr.out (by with_reducible repeat (first | exact Below.refl _ _ | apply below_alloc | apply below_drew))) HX.out.1 (Kd.F_below (offF HX.out.2 HWr.out HO.out) (by with_reducible repeat (first | exact Below.refl _ _ | apply below_alloc | apply below_drew)))).mono ?_); rintro x w6 ⟨rfl, O6, hj6, hk6, ho6, hb6⟩; (have HJ6 := Aside0.mk hj6); (have HW6 : Aside0 (Below W1.heap.size W1 w6) := ⟨hb6⟩); (have y0 := pw_cell_below HW6.out z0); clear hj6 hk6 ho6 hb6))
        go_ret
        exact ⟨rfl, HB0.out.trans ((HW6.out.trans (HBA.out.mono HW6.out.size)).mono HB0.out.size)⟩
      · obtain ⟨f, hf1, hH, hn', hr', hk'⟩ := held_app s F k e s' HH.out HEB.out hap
        have HAP := Aside0.mk hap
        have HH2 := Aside0.mk hH
        have HRK := Aside0.mk (And.intro hr' hk')
        have hfm : (F ++ [f]).map (·.1) = l.take (i + 1) := by rw [List.map_append, HM.out.1, ← HSN.out, ← hf1]; rfl
        have HFM := Aside0.mk hfm
        clear hap hsn hf1 hH hn' hr' hk' hfm
        by_cases ha : (i : Int) = a0
        · have c1 : ((i : Int) == a0) = true := beq_iff_eq.mpr ha
          have c2 : decide ((i : Int) = a0) = true := decide_eq_true ha
          clear ha
          go_wp2_with (first | (go_at_call 24; (with_reducible refine (Sync.calls W1 gj gd O6 s' _ (jn_below HJ6.out (by with_reducible repeat (first | exact Below.refl _ _ | apply below_alloc | apply below_drew))) (below_step HW6.out (by with_reducible repeat (first | exact Below.refl _ _ | apply below_alloc | apply below_drew)))).mono ?_); rintro x w7 ⟨rfl, O7, hj7, hk7, ho7, hb7⟩; (have HJ7 := Aside0.mk hj7); (have HW7 : Aside0 (Below W1.heap.size W1 w7) := ⟨hb7⟩); clear hj7 hk7 ho7 hb7) | (go_at_call 15; (with_reducible refine (Append.ret W1 gj gd O s HG.out e HEB.out 0 s' HAP.out Ax cx _ (jn_below HJ.out (by with_reducible repeat (first | exact Below.refl _ _ | apply below_alloc | apply below_drew))) (below_step HWr.out (by with_reducible repeat (first | exact Below.refl _ _ | apply below_alloc | apply below_drew))) HX.out.1 (Kd.F_below (offF HX.out.2 HWr.out HO.out) (by with_reducible repeat (first | exact Below.refl _ _ | apply below_alloc | apply below_drew)))).mono ?_); rintro x w6 ⟨rfl, O6, hj6, hk6, ho6, hb6⟩; (have HJ6 := Aside0.mk hj6); (have HW6 : Aside0 (Below W1.heap.size W1 w6) := ⟨hb6⟩); (have y0 := pw_cell_below HW6.out z0); clear hj6 hk6 ho6 hb6))
          go_roundg q
          case measure => omega
          case rel =>
            refine ⟨i + 1, i + 1, { s' with sure := (s'.bs.length : Int) }, F ++ [f], O7, rfl, rfl, by have := HIQ.out; omega, HJ7, ⟨?_⟩, ⟨HFM.out, HRK.out.2.trans HM.out.2.1, HRK.out.1.trans HM.out.2.2⟩, HW7⟩
            have := held_sync s' (F ++ [f]) k HH2.out
            rwa [List.length_append, List.length_singleton, HFI.out] at this
        · have c1 : ((i : Int) == a0) = false := beq_eq_false_iff_ne.mpr ha
          have c2 : decide ((i : Int) = a0) = false := decide_eq_false ha
          clear ha
          go_wp2_with (go_at_call 15; (with_reducible refine (Append.ret W1 gj gd O s HG.out e HEB.out 0 s' HAP.out Ax cx _ (jn_below HJ.out (by with_reducible repeat (first | exact Below.refl _ _ | apply below_alloc | apply below_drew))) (below_step HWr.out (by with_reducible repeat (first | exact Below.refl _ _ | apply below_alloc | apply below_drew))) HX.out.1 (Kd.F_below (offF HX.out.2 HWr.out HO.out) (by with_reducible repeat (first | exact Below.refl _ _ | apply below_alloc | apply below_drew)))).mono ?_); rintro x w6 ⟨rfl, O6, hj6, hk6, ho6, hb6⟩; (have HJ6 := Aside0.mk hj6); (have HW6 : Aside0 (Below W1.heap.size W1 w6) := ⟨hb6⟩); (have y0 := pw_cell_below HW6.out z0); clear hj6 hk6 ho6 hb6)
          go_roundg q
          case measure => omega
          case rel => exact ⟨i + 1, k, s', F ++ [f], O6, rfl, rfl, by have := HIQ.out; omega, HJ6, HH2, ⟨HFM.out, HRK.out.2.trans HM.out.2.1, HRK.out.1.trans HM.out.2.2⟩, HW6⟩
theorem JournalRecovers (w : World) (A0 : Option Addr) (c0 : Nat) (l0 : List Int) (hc0 : l0.length ≤ c0) (hC0 : Kd.C (Kd.int .u8) w A0 l0.length l0) (hw0 : l0.length ≤ maxLen ∧ ∀ x ∈ l0, (Lit.int .u8 x).wf = true)
    (A1 : Option Addr) (c1 : Nat) (l1 : List Ent) (hc1 : l1.length ≤ c1) (hC1 : Kd.C kE w A1 l1.length l1) (hw1 : l1.length ≤ maxLen ∧ ∀ x ∈ l1, ∀ b ∈ x.f1, (Lit.int .u8 b).wf = true)
    (cs2 : Array Value) (x2 : Int × Int) (hK2 : (Kd.pair (Kd.int .i64) (Kd.int .i64)).K w x2 cs2.toList) :
    Calls Try.prog 7 #[.slice A0 l0.length c0, .slice A1 l1.length c1, .agg cs2] w fun x w' => x = .returned (.bool true) ∧ Below w.heap.size w w' := by
  obtain ⟨a, b, e, ha, hb⟩ := hK2
  obtain rfl : a = [.int .i64 x2.1] := ha
  obtain rfl : b = [.int .i64 x2.2] := hb
  obtain rfl : cs2 = #[.int .i64 x2.1, .int .i64 x2.2] := Array.toList_inj.mp e
  exact recovers w l0 A0 c0 l1 A1 c1 x2.1 x2.2 hc0 hC0 (LSame.byt_u8 hw0.2) hc1 hC1 (fun e he => LSame.byt_u8 (hw1.2 e he))
end Go.Proofs.Ytogjnipojakfjaa.JJour

/- The row's walk: what a crash leaves of a journal. -/
namespace Go.Proofs.Ytogjnipojakfjaa.SOpen
open Go.RowKit Go.ChangeShapes Go.Proofs.YtogjnipojakfjaaW.PrintWords Go.Proofs.YtogjnipojakfjaaW.PrintLast Go.Proofs.YtogjnipojakfjaaW.PrintMore
theorem okWide_array {P : Program} {w : World} {r : Reach} {base : Nat} {t : TypeId} {v : Value} {n : Nat} {e : TypeId} (ht : P.underlying t = some (.array n e)) (h : Value.okWide P w r base t v) : ∃ cs, v = .agg cs ∧ cs.size = P.cellsOf t := by
  simp only [Value.okWide, ht] at h
  obtain ⟨cs, h1, h2, _⟩ := h
  exact ⟨cs, h1, h2⟩
theorem op_array2 {P : Program} {t e : TypeId} {k : IntKind} (ht : P.underlying t = some (.array 2 e)) (he : P.underlying e = some (.int k)) (hc : P.cellsOf e = 1) (hl : P.cellsOf t = 2) : Op P t (Kd.pair (Kd.int k) (Kd.int k)) (fun _ => True) := by
  intro m H enc w cs x h
  obtain ⟨xs, n, rfl, _, hl2, hxs, hh⟩ := DataW.trod_array ht h
  rw [hl] at hl2
  obtain ⟨a, b, rfl⟩ : ∃ a b, cs = [a, b] := by
    match cs, hl2 with
    | [a, b], _ => exact ⟨a, b, rfl⟩
  obtain ⟨y, z, rfl⟩ : ∃ y z, xs = [y, z] := by
    match xs, hxs with
    | [y, z], _ => exact ⟨y, z, rfl⟩
  have h0 := hh 0 (by decide)
  have h1 := hh 1 (by decide)
  rw [hc] at h0 h1
  obtain ⟨p, e0, _⟩ := DataW.trod_int he (cs := [a]) h0
  obtain ⟨q, e1, _⟩ := DataW.trod_int he (cs := [b]) h1
  exact ⟨(p, q), ⟨[a], [b], rfl, e0, e1⟩, trivial⟩
end Go.Proofs.Ytogjnipojakfjaa.SOpen
namespace Go.Proofs.Ytogjnipojakfjaa.Walk
set_option linter.unusedVariables false
open Go.RowKit Go.Proofs.Ytogjnipojakfjaa.PJr Go.Proofs.Ytogjnipojakfjaa.SOpen Go.Proofs.YtogjnipojakfjaaW.PrintWords Go.Proofs.YtogjnipojakfjaaW.PrintLast Go.Proofs.YtogjnipojakfjaaW.PrintMore
open JJour (Ent kE)
theorem opBytes : SOpen.Op Try.prog 22 (Kd.slice 5 (Kd.int .u8)) (fun l => l.length ≤ maxLen ∧ ∀ x ∈ l, (Lit.int .u8 x).wf = true) :=
  op_mono (op_slice Try.underlying22 (by kernel_rfl) (op_int Try.underlying5)) (fun _ h => h)
theorem opEntry : SOpen.Op Try.prog 35 kE (fun x => ∀ b ∈ x.f1, (Lit.int .u8 b).wf = true) :=
  op_mono (op_struct _ (fun p => ⟨p.1, p.2⟩) (fun _ => rfl) Try.underlying35 (by kernel_rfl) (fun m => seq_cons (op_int Try.underlying3 m) (seq_one (opBytes m)))) (fun _ h => h.2.2)
theorem opEntries : SOpen.Op Try.prog 23 (Kd.slice 35 kE) (fun l => l.length ≤ maxLen ∧ ∀ x ∈ l, ∀ b ∈ x.f1, (Lit.int .u8 b).wf = true) :=
  op_mono (op_slice Try.underlying23 (by kernel_rfl) opEntry) (fun _ h => h)
theorem opPair : SOpen.Op Try.prog 60 (Kd.pair (Kd.int .i64) (Kd.int .i64)) (fun _ => True) :=
  op_array2 Try.underlying60 Try.underlying3 (by kernel_rfl) (by kernel_rfl)
theorem JournalRecovers (w : World) (A0 : Option Addr) (c0 : Nat) (l0 : List Int) (hc0 : l0.length ≤ c0) (hC0 : Kd.C (Kd.int .u8) w A0 l0.length l0) (hw0 : l0.length ≤ maxLen ∧ ∀ x ∈ l0, (Lit.int .u8 x).wf = true)
    (A1 : Option Addr) (c1 : Nat) (l1 : List Ent) (hc1 : l1.length ≤ c1) (hC1 : Kd.C kE w A1 l1.length l1) (hw1 : l1.length ≤ maxLen ∧ ∀ x ∈ l1, ∀ b ∈ x.f1, (Lit.int .u8 b).wf = true)
    (cs2 : Array Value) (x2 : Int × Int) (hK2 : (Kd.pair (Kd.int .i64) (Kd.int .i64)).K w x2 cs2.toList) (hw2 : True) :
    Calls Try.prog 7 #[.slice A0 l0.length c0, .slice A1 l1.length c1, .agg cs2] w fun x w' => x = .returned (.bool true) ∧ Below w.heap.size w w' :=
  JJour.JournalRecovers w A0 c0 l0 hc0 hC0 hw0 A1 c1 l1 hc1 hC1 hw1 cs2 x2 hK2
end Go.Proofs.Ytogjnipojakfjaa.Walk
