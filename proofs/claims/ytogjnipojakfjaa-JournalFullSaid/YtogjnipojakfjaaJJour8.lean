/- The journal: what its functions do to it. -/
import Derived.Test.YtogjnipojakfjaaJJour7
import Derived.Test.YtogjnipojakfjaaPJnx3
import Derived.Test.YtogjnipojakfjaaPJnx4
import Derived.Test.YtogjnipojakfjaaPJnx5
namespace Go.Proofs.Ytogjnipojakfjaa.JJour
open Go.RowKit Go.Proofs.Ytogjnipojakfjaa.PJn Go.Proofs.YtogjnipojakfjaaW.PrintWords Go.Proofs.YtogjnipojakfjaaW.PrintLast Go.Proofs.YtogjnipojakfjaaW.PrintMore
open LSame (Byt)
open LChain (msgS tagS zeroT)
open DDev (Dev dev_below dev_kept dev_drewN dev_mono T8 TD heldN)
set_option linter.unusedVariables false
set_option linter.unusedSimpArgs false
theorem large_l0 (L : List Ent) : ∀ (d i : Nat), d + i = min L.length 20 → ∃ r, Ev (fun m => notaryref47_Large.l0 m L (i : Int)) r ∧ (r = false → L.length ≤ 20)
  | 0, i => fun h => by
    refine ⟨decide ((L.length : Int) > 20), ?_, fun h => by have := of_decide_eq_false h; omega⟩
    have hj : Ev (fun m => notaryref47_Large.j1 m L (i : Int) false) (decide ((L.length : Int) > 20)) := Ev.step (fun m => notaryref47_Large.j1.eq_2 ..) (LEv.neg (by decide) (Ev.now _))
    refine Ev.step (fun m => notaryref47_Large.l0.eq_2 ..) ?_
    by_cases hl : (i : Int) < (L.length : Int)
    · refine LEv.pos hl ?_
      rw [decide_eq_false (by omega)]
      exact hj
    · exact LEv.neg hl hj
  | d + 1, i => fun h => by
    have hl : (i : Int) < (L.length : Int) := by omega
    have hw : wrap64 ((i : Int) + 1) = ((i + 1 : Nat) : Int) := by rw [LEv.w64 _ (by omega) (by omega)]; omega
    obtain ⟨r, hr, hh⟩ := large_l0 L d (i + 1) (by omega)
    have go : ∀ r, Ev (fun m => notaryref47_Large.j1 m L (i : Int) true) r → Ev (fun m => notaryref47_Large.l0 m L (i : Int)) r := fun r k => by
      refine Ev.step (fun m => notaryref47_Large.l0.eq_2 ..) (LEv.pos hl ?_)
      rw [decide_eq_true (by omega)]
      exact k
    by_cases hb : (((rd_T35 L (i : Int)).f1).length : Int) > 2000
    · exact ⟨true, go _ (Ev.step (fun m => notaryref47_Large.j1.eq_2 ..) (LEv.pos rfl (LEv.pos (by omega) (LEv.pos hl (LEv.pos hb (Ev.now _)))))), fun h => by simp at h⟩
    · refine ⟨r, go _ (Ev.step (fun m => notaryref47_Large.j1.eq_2 ..) (LEv.pos rfl (LEv.pos (by omega) (LEv.pos hl (LEv.neg hb ?_))))), hh⟩
      rw [hw]
      exact hr
theorem large_ev (L : List Ent) : ∃ r, Ev (fun m => notaryref47_Large.f m L) r ∧ (r = false → L.length ≤ 20) := by
  obtain ⟨r, h1, h2⟩ := large_l0 L (min L.length 20) 0 (by omega)
  exact ⟨r, Ev.congr (fun m => notaryref47_Large.f.eq_1 ..) h1, h2⟩
set_option maxHeartbeats 8000000 in
set_option maxRecDepth 100000 in
theorem JournalNil (w : World) (e : Ent) (A : Option Addr) (c : Nat) (hc : e.f1.length ≤ c) (hC : Kd.C (Kd.int .u8) w A e.f1.length e.f1) (hw : ∀ b ∈ e.f1, (Lit.int .u8 b).wf = true) :
    Calls Try.prog 5 #[.agg #[.int .i64 e.f0, .slice A e.f1.length c]] w fun x w' => x = .returned (.bool true) ∧ Below w.heap.size w w' := by
  obtain ⟨W1, hW1⟩ : ∃ W1 : World, W1 = w.alloc (.cells #[.int .i64 e.f0, .slice A e.f1.length c] TE) := ⟨_, rfl⟩
  have hb1 : Below w.heap.size w W1 := by rw [hW1]; exact below_alloc (Below.refl _ _) _
  have hx1 : W1.heap[w.heap.size]? = some (.cells #[.int .i64 e.f0, .slice A e.f1.length c] TE (0, 0)) := by rw [hW1]; exact blk_new _ _
  have x0 : W1.cell? ⟨w.heap.size, 0, none⟩ = some (.int .i64 e.f0) := (blk_cell hx1 0).trans rfl
  have x1 : W1.cell? ⟨w.heap.size, 1, none⟩ = some (.slice A e.f1.length c) := (blk_cell hx1 1).trans rfl
  have HB1 := Aside0.mk hb1
  clear hb1 hx1 hc hC hw
  go_enter Try.func5, Try.ntmps5
  go_upto_region 1 with (fail)
  try simp only [← hW1]
  clear hW1
  go_wp2_with (first | (go_at_call 24; (with_reducible refine (nil_Sync _).mono ?_); rintro x w2 ⟨rfl, rfl⟩) | (go_at_call 15; (with_reducible refine (nil_Append e.f0 A e.f1.length c _).mono ?_); rintro x w3 ⟨rfl, hb3⟩; (have HB3 : Aside0 (Below W1.heap.size W1 w3) := ⟨below_step (by with_reducible repeat (first | exact Below.refl _ _ | apply below_alloc | apply below_drew)) hb3⟩); clear hb3) | (go_at_call 14; (with_reducible refine (nil_Count _).mono ?_); rintro x w4 ⟨rfl, rfl⟩) | (go_at_call 12; (with_reducible refine (nil_Log _).mono ?_); rintro x w5 ⟨rfl, rfl⟩) | (go_at_call 25; (with_reducible refine (nil_Entries _).mono ?_); rintro x w6 ⟨rfl, rfl⟩) | (go_at_call 13; (with_reducible refine (nil_Tag _).mono ?_); rintro x w7 ⟨A7, c7, rfl, hc7, hC7, hb7⟩; (have HC7 := Aside0.mk (And.intro hc7 hC7)); (have HB7 : Aside0 (Below w3.heap.size w3 w7) := ⟨below_step (by with_reducible repeat (first | exact Below.refl _ _ | apply below_alloc | apply below_drew)) hb7⟩); clear hc7 hC7 hb7) | (go_at_call 26; (with_reducible refine (first_ret _).mono ?_); rintro x w8 ⟨A8, c8, rfl, hc8, hC8, hb8⟩; (have HC8 := Aside0.mk (And.intro hc8 hC8)); (have HB8 : Aside0 (Below w7.heap.size w7 w8) := ⟨below_step (by with_reducible repeat (first | exact Below.refl _ _ | apply below_alloc | apply below_drew)) hb8⟩); clear hc8 hC8 hb8) | (go_at_call 16; (with_reducible refine (same_ret A7 c7 zeroT A8 c8 zeroT _ (Kd.C_below (Kd.C_below HC7.out.2 HB8.out) (by with_reducible repeat (first | exact Below.refl _ _ | apply below_alloc | apply below_drew))) HC7.out.1 (Kd.C_below HC8.out.2 (by with_reducible repeat (first | exact Below.refl _ _ | apply below_alloc | apply below_drew))) HC8.out.1 (by rw [LChain.zeroT_len]; decide) true (decide_eq_true rfl).symm).mono ?_); rintro x w9 ⟨rfl, hb9⟩; (have HB9 : Aside0 (Below w8.heap.size w8 w9) := ⟨below_step (by with_reducible repeat (first | exact Below.refl _ _ | apply below_alloc | apply below_drew)) hb9⟩); clear hb9) | (go_at_call 9; (with_reducible refine (awake.calls _).mono ?_); rintro x wa ⟨rfl, hba⟩; (have HBA : Aside0 (Below w9.heap.size w9 wa) := ⟨below_step (by with_reducible repeat (first | exact Below.refl _ _ | apply below_alloc | apply below_drew)) hba⟩); clear hba))
  go_ret
  have s1 := HB1.out.size
  have s3 := HB3.out.size
  have s7 := HB7.out.size
  have s8 := HB8.out.size
  have s9 := HB9.out.size
  exact ⟨rfl, ((((HB1.out.trans (HB3.out.mono s1)).trans (HB7.out.mono (by omega))).trans (HB8.out.mono (by omega))).trans (HB9.out.mono (by omega))).trans (HBA.out.mono (by omega))⟩
theorem large_ret (k : Nat) (A : Option Addr) (c : Nat) (l : List Ent) (r : Bool) (w : World) (h0 : Kd.C kE w A l.length l) (h1 : l.length ≤ c) (h : notaryref47_Large.f k l = some r) :
    Calls Try.prog 8 #[.slice A l.length c] w fun e w' => e = .returned (.bool r) ∧ Below w.heap.size w w' :=
  (notaryref47_Large.calls k A c l r w h0 h1 h).mono (fun e w' ⟨a, n, hb⟩ => ⟨a, by rw [hb]; exact pw_below_drewN (Below.refl _ _) n⟩)
theorem appS_cases (s : St) (e : Ent) : (∃ r, r ≠ 0 ∧ appS s e = (r, s)) ∨ (∃ s', appS s e = (0, s') ∧ s'.n = s.n + 1) := by
  unfold appS
  split
  · split
    · exact .inl ⟨28, by decide, rfl⟩
    · exact .inr ⟨_, rfl, rfl⟩
  · rename_i h
    exact .inl ⟨_, h, rfl⟩
theorem offF {w w5 : World} {A : Option Addr} {n : Nat} {x : List Int} {O : Nat → Prop} {B2 : Nat} (h : Kd.F (Kd.int .u8) w (fun q => q < w.heap.size) A n x) (hb : Below w.heap.size w w5) (hO : ∀ q, O q → w.heap.size ≤ q ∧ q < B2) : Kd.F (Kd.int .u8) w5 (fun q => ¬ O q) A n x :=
  Kd.F_mono (Kd.F_below h hb) (fun q hq h => by have := (hO q h).1; omega)
theorem keptF {w5 w6 wr : World} {A : Option Addr} {n : Nat} {x : List Int} {O : Nat → Prop} {B a : Nat} (h : Kd.F (Kd.int .u8) w5 (fun q => a ≤ q) A n x) (ha : wr.heap.size ≤ a) (hk : Kept w5 w6 O) (hO : ∀ q, O q → B ≤ q ∧ q < wr.heap.size) : Kd.F (Kd.int .u8) w6 (fun q => a ≤ q) A n x :=
  Kd.F_kept h hk (fun q hq h => by have := (hO q h).2; omega)
set_option maxHeartbeats 16000000 in
set_option maxRecDepth 100000 in
theorem full (w : World) (key : List Int) (Ak : Option Addr) (ck : Nat) (room : Int) (l : List Ent) (Al : Option Addr) (cl : Nat) (hck : key.length ≤ ck) (hK : Kd.C (Kd.int .u8) w Ak key.length key) (hkb : Byt key) (hcl : l.length ≤ cl) (hL : Kd.C kE w Al l.length l) (hlb : ∀ e ∈ l, Byt e.f1) :
    Calls Try.prog 3 #[.slice Ak key.length ck, .int .i64 room, .slice Al l.length cl] w fun x w' => x = .returned (.bool true) ∧ Below w.heap.size w w' := by
  obtain ⟨la, hla, hsa⟩ := large_ev l
  obtain ⟨k1, hk1⟩ := Ev.rounds hla
  have HK := Aside0.mk (And.intro hck hK)
  have HKB := Aside0.mk hkb
  have HL := Aside0.mk (And.intro hcl hL)
  have HLB := Aside0.mk hlb
  have HK1 := Aside0.mk hk1
  clear hck hK hkb hcl hL hlb hla hk1
  cases la with
  | true =>
    clear hsa
    go_enter Try.func3, Try.ntmps3
    go_wp2_with (first | (go_at_call 8; (with_reducible refine (large_ret k1 Al cl l true _ (Kd.C_below HL.out.2 (by with_reducible repeat (first | exact Below.refl _ _ | apply below_alloc | apply below_drew))) HL.out.1 HK1.out).mono ?_); rintro x w1 ⟨rfl, hb1⟩; (have HB1 : Aside0 (Below w.heap.size w w1) := ⟨below_step (by with_reducible repeat (first | exact Below.refl _ _ | apply below_alloc | apply below_drew)) hb1⟩); clear hb1) | (go_at_call 9; (with_reducible refine (awake.calls _).mono ?_); rintro x wa ⟨rfl, hba⟩; (have HBA : Aside0 (Below w1.heap.size w1 wa) := ⟨below_step (by with_reducible repeat (first | exact Below.refl _ _ | apply below_alloc | apply below_drew)) hba⟩); clear hba))
    go_ret
    exact ⟨rfl, HB1.out.trans (HBA.out.mono HB1.out.size)⟩
  | false =>
  have hl20 := hsa rfl
  by_cases hk100 : (key.length : Int) > 100
  · have hd : decide ((key.length : Int) > 100) = true := decide_eq_true hk100
    have hd2 : decide (100 < key.length) = true := decide_eq_true (by omega)
    clear hk100 hl20 hsa
    go_enter Try.func3, Try.ntmps3
    go_wp2_with (first | (go_at_call 8; (with_reducible refine (large_ret k1 Al cl l false _ (Kd.C_below HL.out.2 (by with_reducible repeat (first | exact Below.refl _ _ | apply below_alloc | apply below_drew))) HL.out.1 HK1.out).mono ?_); rintro x w1 ⟨rfl, hb1⟩; (have HB1 : Aside0 (Below w.heap.size w w1) := ⟨below_step (by with_reducible repeat (first | exact Below.refl _ _ | apply below_alloc | apply below_drew)) hb1⟩); clear hb1) | (go_at_call 9; (with_reducible refine (awake.calls _).mono ?_); rintro x wa ⟨rfl, hba⟩; (have HBA : Aside0 (Below w1.heap.size w1 wa) := ⟨below_step (by with_reducible repeat (first | exact Below.refl _ _ | apply below_alloc | apply below_drew)) hba⟩); clear hba))
    go_ret
    exact ⟨rfl, HB1.out.trans (HBA.out.mono HB1.out.size)⟩
  have hd : decide ((key.length : Int) > 100) = false := decide_eq_false hk100
  have hd2 : decide (100 < key.length) = false := decide_eq_false (by omega)
  have HL20 := Aside0.mk hl20
  have HKL : Aside0 (key.length ≤ 1000) := ⟨by omega⟩
  have hr0 : 0 ≤ heldN room 65536 ∧ heldN room 65536 ≤ 65536 := by unfold heldN mn mx; split <;> split <;> omega
  obtain ⟨rm, hrm⟩ : ∃ rm, rm = heldN room 65536 := ⟨_, rfl⟩
  rw [← hrm] at hr0
  have HR := Aside0.mk hr0
  have HRM := Aside0.mk hrm
  have HG0 := Aside0.mk (openS_good key rm 0 [] hr0.1 hr0.2 (by simp; exact hr0.1) (by decide) Byt.nil HKB.out HKL.out)
  clear hk100 hl20 hsa hr0 hrm
  go_enter Try.func3, Try.ntmps3
  go_wp2_with (first | (go_at_call 8; (with_reducible refine (large_ret k1 Al cl l false _ (Kd.C_below HL.out.2 (by with_reducible repeat (first | exact Below.refl _ _ | apply below_alloc | apply below_drew))) HL.out.1 HK1.out).mono ?_); rintro x w1 ⟨rfl, hb1⟩; (have HB1 : Aside0 (Below w.heap.size w w1) := ⟨below_step (by with_reducible repeat (first | exact Below.refl _ _ | apply below_alloc | apply below_drew)) hb1⟩); clear hb1) | (go_at_call 11; (with_reducible refine (DDev.New.calls room _).mono ?_); rintro x w2 ⟨gd, rfl, hg2, hb2, hd2⟩; (rw [← HRM.out] at hd2); (have HB2 : Aside0 (Below w.heap.size w w2) := ⟨HB1.out.trans (Below.mono (below_step (by with_reducible repeat (first | exact Below.refl _ _ | apply below_alloc | apply below_drew)) hb2) HB1.out.size)⟩); (have HD2 : Aside0 (Dev w2 w.heap.size gd (fun _ => False) rm 0 [] (.slice none 0 0)) := ⟨dev_lower hd2 HB1.out.size⟩); clear hd2 hb2 hg2) | (go_at_call 10; (with_reducible refine (Open.calls w gd (fun _ => False) rm 0 [] (.slice none 0 0) key Ak ck _ (dev_below HD2.out (by with_reducible repeat (first | exact Below.refl _ _ | apply below_alloc | apply below_drew))) (below_step HB2.out (by with_reducible repeat (first | exact Below.refl _ _ | apply below_alloc | apply below_drew))) HK.out.1 (Kd.C_below HK.out.2 (below_step HB2.out (by with_reducible repeat (first | exact Below.refl _ _ | apply below_alloc | apply below_drew)))) (by decide) Byt.nil HKB.out HKL.out).mono ?_); rintro x w3 ⟨gj, O3, rfl, hj3, hk3, ho3, hb3⟩; (have HJ3 := Aside0.mk hj3); (have HB3 := Aside0.mk hb3); clear hj3 hk3 ho3 hb3))
  go_loopg [8] l.length (fun q v8 w' => ∃ (i : Nat) (s : St) (O : Nat → Prop), v8 = .int .i64 (i : Int) ∧ i + q = l.length ∧ Aside0 (Jn w' w.heap.size gj gd O s) ∧ Aside0 (Good s) ∧ Aside0 (Below w.heap.size w w'))
  case atStart => exact ⟨0, openS key rm 0 [], O3, rfl, by omega, HJ3, HG0, HB3⟩
  case round =>
    clear HJ3 HB3 HD2 HB2 HB1
    obtain ⟨i, s, O, rfl, hiq, HJ, HG, HB⟩ := hrel
    cases gk with
    | zero =>
      have d1 : decide ((i : Int) < (l.length : Int)) = false := decide_eq_false (by omega)
      go_wp2_with (go_at_call 9; (with_reducible refine (awake.calls _).mono ?_); rintro x wa ⟨rfl, hba⟩; (have HBA : Aside0 (Below wr.heap.size wr wa) := ⟨below_step (by with_reducible repeat (first | exact Below.refl _ _ | apply below_alloc | apply below_drew)) hba⟩); clear hba)
      go_ret
      exact ⟨rfl, HB.out.trans (HBA.out.mono HB.out.size)⟩
    | succ q =>
      have d1 : decide ((i : Int) < (l.length : Int)) = true := decide_eq_true (by omega)
      have p0 : 0 ≤ (i : Int) := by omega
      have p1 : (i : Int) < (l.length : Int) := by omega
      have hw1 : IntKind.i64.wrap ((i : Int) + 1) = ((i + 1 : Nat) : Int) := by rw [IntWalk.i64_in _ (by have := HL20.out; omega)]; omega
      have hw2 : IntKind.i64.wrap ((s.n : Int) + 1) = (s.n : Int) + 1 := IntWalk.i64_in _ (by have := HG.out.nb; have := HG.out.b0; have := HG.out.r1; omega)
      obtain ⟨ad, Ax, cx, ea, m0, m1, hlx, hcx⟩ := at_T35 HL.out.2 (i : Int) p0 p1
      obtain ⟨e, he⟩ : ∃ e, e = rd_T35 l (i : Int) := ⟨_, rfl⟩
      have heb : Byt e.f1 := by
        rw [he]
        unfold rd_T35
        rw [Int.toNat_natCast, List.getD_eq_getElem?_getD, List.getElem?_eq_getElem (show i < l.length by omega)]
        exact HLB.out _ (List.getElem_mem _)
      rw [← he] at m0 m1 hlx hcx
      subst ea
      have M0 := Aside0.mk (And.intro m0 m1)
      have HX := Aside0.mk (And.intro hlx (Kd.C_F heapI hcx))
      have HEB := Aside0.mk heb
      have HO := Aside0.mk (jn_own HJ.out)
      have HIQ := Aside0.mk hiq
      clear he m0 m1 hlx hcx heb hiq
      replace p0 := eq_true p0
      replace p1 := eq_true p1
      have HBS : Aside0 (s.bs.length ≤ 65536) := ⟨by have := HG.out.b0; have := HG.out.r1; omega⟩
      have HTL : Aside0 (s.tag.length ≤ 65536) := ⟨by rw [HG.out.tl]; decide⟩
      rw [Int.toNat_natCast] at M0
      have hgs' := appS_good s e HG.out HEB.out
      rcases appS_cases s e with ⟨r, hr0, hap⟩ | ⟨s', hap, hsn⟩
      · have HAP := Aside0.mk hap
        have e1 : (r != 0) = true := bne_iff_ne.mpr hr0
        have e2 : (r == 0) = false := beq_eq_false_iff_ne.mpr hr0
        clear hap hr0 hgs'
        go_wp2_with (first | (go_at_call 14; (with_reducible refine (Count.ret w.heap.size gj gd O6 s (s.n : Int) rfl _ (jn_below (jn_below (jn_below (jn_below (jn_below HJ6.out HB7.out) HB8.out) HB9.out) HBD.out) (by with_reducible repeat (first | exact Below.refl _ _ | apply below_alloc | apply below_drew)))).mono ?_); rintro x wz ⟨rfl, rfl⟩) | (go_at_call 16; (with_reducible refine (same_ret A9 c9 s.tag A5 c5 s.tag _ (Kd.C_below HC9.out.2 (by with_reducible repeat (first | exact Below.refl _ _ | apply below_alloc | apply below_drew))) HC9.out.1 (Kd.C_below (Kd.C_below (Kd.C_below (Kd.C_below (Kd.F_now (keptF HF5.out HB4.out.size HK6.out HO.out)) HB7.out) HB8.out) HB9.out) (by with_reducible repeat (first | exact Below.refl _ _ | apply below_alloc | apply below_drew))) HC5.out (Nat.le_trans HTL.out (by decide)) true (decide_eq_true rfl).symm).mono ?_); rintro x wd ⟨rfl, hbd⟩; (have HBD : Aside0 (Below w9.heap.size w9 wd) := ⟨below_step (by with_reducible repeat (first | exact Below.refl _ _ | apply below_alloc | apply below_drew)) hbd⟩); clear hbd) | (go_at_call 13; (with_reducible refine (Tag.calls w.heap.size gj gd O6 s HTL.out _ (jn_below (jn_below (jn_below HJ6.out HB7.out) HB8.out) (by with_reducible repeat (first | exact Below.refl _ _ | apply below_alloc | apply below_drew)))).mono ?_); rintro x w9 ⟨A9, c9, rfl, hc9, hF9, hb9⟩; (have HC9 := Aside0.mk (And.intro hc9 (Kd.F_now hF9))); (have HB9 : Aside0 (Below w8.heap.size w8 w9) := ⟨below_step (by with_reducible repeat (first | exact Below.refl _ _ | apply below_alloc | apply below_drew)) hb9⟩); clear hc9 hF9 hb9) | (go_at_call 16; (with_reducible refine (same_ret A7 c7 s.bs A4 c4 s.bs _ (Kd.C_below HC7.out.2 (by with_reducible repeat (first | exact Below.refl _ _ | apply below_alloc | apply below_drew))) HC7.out.1 (Kd.C_below (Kd.C_below (Kd.F_now (keptF (Kd.F_below HF4.out HB5.out) (Nat.le_refl _) HK6.out HO.out)) HB7.out) (by with_reducible repeat (first | exact Below.refl _ _ | apply below_alloc | apply below_drew))) HC4.out (Nat.le_trans HBS.out (by decide)) true (decide_eq_true rfl).symm).mono ?_); rintro x w8 ⟨rfl, hb8⟩; (have HB8 : Aside0 (Below w7.heap.size w7 w8) := ⟨below_step (by with_reducible repeat (first | exact Below.refl _ _ | apply below_alloc | apply below_drew)) hb8⟩); clear hb8) | (go_at_call 12; (with_reducible refine (Log.calls w gj gd O6 s HBS.out _ (jn_below HJ6.out (by with_reducible repeat (first | exact Below.refl _ _ | apply below_alloc | apply below_drew)))).mono ?_); rintro x w7 ⟨A7, c7, rfl, hc7, hF7, hb7⟩; (have HC7 := Aside0.mk (And.intro hc7 (Kd.F_now hF7))); (have HB7 : Aside0 (Below w6.heap.size w6 w7) := ⟨below_step (by with_reducible repeat (first | exact Below.refl _ _ | apply below_alloc | apply below_drew)) hb7⟩); clear hc7 hF7 hb7) | (go_at_call 15; (with_reducible refine (Append.ret w gj gd O s HG.out e HEB.out r s HAP.out Ax cx _ (jn_below (jn_below HJ.out HR5.out) (by with_reducible repeat (first | exact Below.refl _ _ | apply below_alloc | apply below_drew))) (below_step HW5.out (by with_reducible repeat (first | exact Below.refl _ _ | apply below_alloc | apply below_drew))) HX.out.1 (Kd.F_below (offF HX.out.2 HW5.out HO.out) (by with_reducible repeat (first | exact Below.refl _ _ | apply below_alloc | apply below_drew)))).mono ?_); rintro x w6 ⟨rfl, O6, hj6, hk6, ho6, hb6⟩; (have HJ6 := Aside0.mk hj6); (have HK6 : Aside0 (Kept w5 w6 O) := ⟨hk6⟩); (have HB6 := Aside0.mk hb6); clear hj6 hk6 ho6 hb6) | (go_at_call 14; (with_reducible refine (Count.ret w.heap.size gj gd O s (s.n : Int) rfl _ (jn_below (jn_below HJ.out HR5.out) (by with_reducible repeat (first | exact Below.refl _ _ | apply below_alloc | apply below_drew)))).mono ?_); rintro x wz ⟨rfl, rfl⟩) | (go_at_call 13; (with_reducible refine (Tag.calls w.heap.size gj gd O s HTL.out _ (jn_below (jn_below HJ.out HB4.out) (by with_reducible repeat (first | exact Below.refl _ _ | apply below_alloc | apply below_drew)))).mono ?_); rintro x w5 ⟨A5, c5, rfl, hc5, hF5, hb5⟩; (have HF5 : Aside0 (Kd.F (Kd.int .u8) w5 (fun q => w4.heap.size ≤ q) A5 s.tag.length s.tag) := ⟨hF5⟩); (have HC5 := Aside0.mk hc5); (have HB5 : Aside0 (Below w4.heap.size w4 w5) := ⟨below_step (by with_reducible repeat (first | exact Below.refl _ _ | apply below_alloc | apply below_drew)) hb5⟩); (have HR5 : Aside0 (Below wr.heap.size wr w5) := ⟨HB4.out.trans (HB5.out.mono HB4.out.size)⟩); (have HW5 : Aside0 (Below w.heap.size w w5) := ⟨HB.out.trans (HR5.out.mono HB.out.size)⟩); (have n0 := (HW5.out.cell (World.block_lt_of_cell? _ _ M0.out.1)).trans M0.out.1); (have n1 := (HW5.out.cell (World.block_lt_of_cell? _ _ M0.out.2)).trans M0.out.2); clear hc5 hF5 hb5) | (go_at_call 12; (with_reducible refine (Log.calls w gj gd O s HBS.out _ (jn_below HJ.out (by with_reducible repeat (first | exact Below.refl _ _ | apply below_alloc | apply below_drew)))).mono ?_); rintro x w4 ⟨A4, c4, rfl, hc4, hF4, hb4⟩; (have HF4 : Aside0 (Kd.F (Kd.int .u8) w4 (fun q => wr.heap.size ≤ q) A4 s.bs.length s.bs) := ⟨hF4⟩); (have HC4 := Aside0.mk hc4); (have HB4 : Aside0 (Below wr.heap.size wr w4) := ⟨below_step (by with_reducible repeat (first | exact Below.refl _ _ | apply below_alloc | apply below_drew)) hb4⟩); clear hc4 hF4 hb4))
        go_roundg q
        case measure => omega
        case rel =>
          have h67 := HB6.out.size
          have h7 := HB7.out.size
          have h8 := HB8.out.size
          have h9 := HB9.out.size
          exact ⟨i + 1, s, O6, rfl, by have := HIQ.out; omega, ⟨jn_below (jn_below (jn_below (jn_below HJ6.out HB7.out) HB8.out) HB9.out) HBD.out⟩, HG, ⟨(((HB6.out.trans (HB7.out.mono h67)).trans (HB8.out.mono (by omega))).trans (HB9.out.mono (by omega))).trans (HBD.out.mono (by omega))⟩⟩
      · rw [hap] at hgs'
        have HAP := Aside0.mk hap
        have HGS := Aside0.mk hgs'
        have HSN : Aside0 ((s'.n : Int) = (s.n : Int) + 1) := ⟨by rw [hsn]; omega⟩
        clear hap hgs' hsn
        go_wp2_with (first | (go_at_call 14; (with_reducible refine (Count.ret w.heap.size gj gd O6 s' ((s.n : Int) + 1) HSN.out _ (jn_below HJ6.out (by with_reducible repeat (first | exact Below.refl _ _ | apply below_alloc | apply below_drew)))).mono ?_); rintro x wz ⟨rfl, rfl⟩) | (go_at_call 15; (with_reducible refine (Append.ret w gj gd O s HG.out e HEB.out 0 s' HAP.out Ax cx _ (jn_below (jn_below HJ.out HR5.out) (by with_reducible repeat (first | exact Below.refl _ _ | apply below_alloc | apply below_drew))) (below_step HW5.out (by with_reducible repeat (first | exact Below.refl _ _ | apply below_alloc | apply below_drew))) HX.out.1 (Kd.F_below (offF HX.out.2 HW5.out HO.out) (by with_reducible repeat (first | exact Below.refl _ _ | apply below_alloc | apply below_drew)))).mono ?_); rintro x w6 ⟨rfl, O6, hj6, hk6, ho6, hb6⟩; (have HJ6 := Aside0.mk hj6); (have HK6 : Aside0 (Kept w5 w6 O) := ⟨hk6⟩); (have HB6 := Aside0.mk hb6); clear hj6 hk6 ho6 hb6) | (go_at_call 14; (with_reducible refine (Count.ret w.heap.size gj gd O s (s.n : Int) rfl _ (jn_below (jn_below HJ.out HR5.out) (by with_reducible repeat (first | exact Below.refl _ _ | apply below_alloc | apply below_drew)))).mono ?_); rintro x wz ⟨rfl, rfl⟩) | (go_at_call 13; (with_reducible refine (Tag.calls w.heap.size gj gd O s HTL.out _ (jn_below (jn_below HJ.out HB4.out) (by with_reducible repeat (first | exact Below.refl _ _ | apply below_alloc | apply below_drew)))).mono ?_); rintro x w5 ⟨A5, c5, rfl, hc5, hF5, hb5⟩; (have HF5 : Aside0 (Kd.F (Kd.int .u8) w5 (fun q => w4.heap.size ≤ q) A5 s.tag.length s.tag) := ⟨hF5⟩); (have HC5 := Aside0.mk hc5); (have HB5 : Aside0 (Below w4.heap.size w4 w5) := ⟨below_step (by with_reducible repeat (first | exact Below.refl _ _ | apply below_alloc | apply below_drew)) hb5⟩); (have HR5 : Aside0 (Below wr.heap.size wr w5) := ⟨HB4.out.trans (HB5.out.mono HB4.out.size)⟩); (have HW5 : Aside0 (Below w.heap.size w w5) := ⟨HB.out.trans (HR5.out.mono HB.out.size)⟩); (have n0 := (HW5.out.cell (World.block_lt_of_cell? _ _ M0.out.1)).trans M0.out.1); (have n1 := (HW5.out.cell (World.block_lt_of_cell? _ _ M0.out.2)).trans M0.out.2); clear hc5 hF5 hb5) | (go_at_call 12; (with_reducible refine (Log.calls w gj gd O s HBS.out _ (jn_below HJ.out (by with_reducible repeat (first | exact Below.refl _ _ | apply below_alloc | apply below_drew)))).mono ?_); rintro x w4 ⟨A4, c4, rfl, hc4, hF4, hb4⟩; (have HF4 : Aside0 (Kd.F (Kd.int .u8) w4 (fun q => wr.heap.size ≤ q) A4 s.bs.length s.bs) := ⟨hF4⟩); (have HC4 := Aside0.mk hc4); (have HB4 : Aside0 (Below wr.heap.size wr w4) := ⟨below_step (by with_reducible repeat (first | exact Below.refl _ _ | apply below_alloc | apply below_drew)) hb4⟩); clear hc4 hF4 hb4))
        go_roundg q
        case measure => omega
        case rel => exact ⟨i + 1, s', O6, rfl, by have := HIQ.out; omega, HJ6, HGS, HB6⟩
theorem JournalFull (w : World) (A0 : Option Addr) (c0 : Nat) (l0 : List Int) (hc0 : l0.length ≤ c0) (hC0 : Kd.C (Kd.int .u8) w A0 l0.length l0) (hw0 : l0.length ≤ maxLen ∧ ∀ x ∈ l0, (Lit.int .u8 x).wf = true) (room : Int)
    (A2 : Option Addr) (c2 : Nat) (l2 : List Ent) (hc2 : l2.length ≤ c2) (hC2 : Kd.C kE w A2 l2.length l2) (hw2 : l2.length ≤ maxLen ∧ ∀ x ∈ l2, ∀ b ∈ x.f1, (Lit.int .u8 b).wf = true) :
    Calls Try.prog 3 #[.slice A0 l0.length c0, .int .i64 room, .slice A2 l2.length c2] w fun x w' => x = .returned (.bool true) ∧ Below w.heap.size w w' :=
  full w l0 A0 c0 room l2 A2 c2 hc0 hC0 (LSame.byt_u8 hw0.2) hc2 hC2 (fun e he => LSame.byt_u8 (hw2.2 e he))
end Go.Proofs.Ytogjnipojakfjaa.JJour
