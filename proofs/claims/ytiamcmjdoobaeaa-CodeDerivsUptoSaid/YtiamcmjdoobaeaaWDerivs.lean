/- The law of derivations as bytes, for every input of its row. -/
import Derived.Test.YtiamcmjdoobaeaaLDx
import Derived.Test.YtiamcmjdoobaeaaWTermOp
import Derived.Test.YtiamcmjdoobaeaaPCdx4
import Derived.Test.YtiamcmjdoobaeaaPCdx5
import Derived.Test.YtiamcmjdoobaeaaPCdx7
import Derived.Test.YtiamcmjdoobaeaaPCdx14
namespace Go.Proofs.Ytiamcmjdoobaeaa.Walk
set_option linter.unusedVariables false
set_option linter.unusedSimpArgs false
open Go.RowKit Go.Proofs.Ytiamcmjdoobaeaa.PCd Go.Proofs.Ytiamcmjdoobaeaa.SOpen Go.Proofs.YtiamcmjdoobaeaaW.PrintWords Go.Proofs.YtiamcmjdoobaeaaW.PrintLast Go.Proofs.YtiamcmjdoobaeaaW.PrintMore
open LTerm (T Fine Small)
open SVarint LVarint LCd
open LDv (D S FineD)
theorem opBytes : SOpen.Op Try.prog 22 (Kd.slice 5 (Kd.int .u8)) (fun l => l.length ≤ maxLen ∧ ∀ x ∈ l, (Lit.int .u8 x).wf = true) :=
  op_mono (op_slice Try.underlying22 (by kernel_rfl) (op_int Try.underlying5)) (fun _ h => h)
theorem byt_u8 {l : List Int} (h : ∀ x ∈ l, (Lit.int .u8 x).wf = true) : Byt l := by
  intro x hx
  have := h x hx
  simp [Lit.wf, IntKind.min, IntKind.max, IntKind.signed, IntKind.bits] at this
  omega
theorem wf_i64 (a : Int) (h : (Lit.int .i64 a).wf = true) : -9223372036854775808 ≤ a ∧ a < 9223372036854775808 := by
  simp [Lit.wf, IntKind.min, IntKind.max, IntKind.signed, IntKind.bits] at h
  omega
theorem ok_num {x : T} : Ok x → Num x := by
  induction x using LTerm.ind with
  | h x ih =>
  intro h
  cases h with
  | mk _ _ h1 _ _ hs _ _ => exact Num.mk x (wf_i64 _ h1) (fun y hy => ih y hy (hs y hy))
def OkS (s : S) : Prop := s.f2.length ≤ maxLen ∧ s.f3.length ≤ maxLen ∧ Ok s.f4
inductive OkD : D → Prop
  | mk (x : D) : x.f1.length ≤ maxLen → OkS x.f2 → x.f3.length ≤ maxLen → (∀ y ∈ x.f3, OkD y) → OkD x
theorem OkD.fine {x : D} : OkD x → FineD x := by
  induction x using LDv.indD with
  | h x ih =>
  intro h
  cases h with
  | mk _ h1 h2 h3 hs => exact FineD.mk x h1 h3 h2.1 h2.2.1 h2.2.2.fine (ok_num h2.2.2) (fun y hy => ih y hy (hs y hy))
theorem opInts : SOpen.Op Try.prog 37 (Kd.slice 3 (Kd.int .i64)) (fun l => l.length ≤ maxLen ∧ ∀ x ∈ l, (Lit.int .i64 x).wf = true) :=
  op_slice Try.underlying37 (by kernel_rfl) (op_int Try.underlying3)
theorem opStep : SOpen.Op Try.prog 39 k39 OkS := by
  refine op_mono (op_struct (P := Try.prog) (t := 39) (fun x : S => (x.f0, x.f1, x.f2, x.f3, x.f4)) (fun a => ⟨a.1, a.2.1, a.2.2.1, a.2.2.2.1, a.2.2.2.2⟩) (fun a => rfl) Try.underlying39 (by kernel_rfl)
    (fun m => seq_cons (op_int Try.underlying3 m) (seq_cons (op_bool Try.underlying4 m) (seq_cons (opInts m) (seq_cons (opInts m) (seq_one (opTerm m))))))) (fun a h => ?_)
  obtain ⟨_, _, ⟨h2, _⟩, ⟨h3, _⟩, h4⟩ := h
  exact ⟨h2, h3, h4⟩
theorem opDeriv : SOpen.Op Try.prog 42 k42 OkD := by
  refine op_fix mono42 (fun d hd m hm => ?_)
  have h := op_struct_at (P := Try.prog) (t := 42) (fun x : D => (x.f0, x.f1, x.f2, x.f3)) (fun a => ⟨a.1, a.2.1, a.2.2.1, a.2.2.2⟩) (fun a => rfl) m Try.underlying42 (by kernel_rfl)
    (fun m' hm' => seq_cons (op_int Try.underlying3 m') (seq_cons (opInts m') (seq_cons (opStep m') (seq_one (op_slice_at m' Try.underlying40 (by rw [hd]; kernel_rfl) (fun m'' h'' => hm m'' (by omega)))))))
  intro H enc w cs x hx
  obtain ⟨a, ha, h0, ⟨h1, _⟩, h2, h3, h4⟩ := h H enc w cs x hx
  exact ⟨a, ha, OkD.mk a h1 h2 h3 h4⟩
theorem etaD (x : D) : (⟨x.f0, x.f1, ⟨x.f2.f0, x.f2.f1, x.f2.f2, x.f2.f3, ⟨x.f2.f4.f0, x.f2.f4.f1, x.f2.f4.f2, x.f2.f4.f3, x.f2.f4.f4, x.f2.f4.f5⟩⟩, x.f3⟩ : D) = x := by
  obtain ⟨a, b, ⟨c, d, e, f, ⟨g, h, i, j, k, l⟩⟩, m⟩ := x
  rfl
/-- what the law comes to -/
theorem pieces (l0 : List Int) (x : D) (l2 : List Int) (h0 : Byt l0) (h2 : Byt l2) (hF : FineD x) (b0 : l0.length ≤ 1048576) (b2 : l2.length ≤ 1048576) :
    Ev (fun m => notaryref35_Large.f m x.f0 x.f1 x.f2.f0 x.f2.f1 x.f2.f2 x.f2.f3 x.f2.f4.f0 x.f2.f4.f1 x.f2.f4.f2 x.f2.f4.f3 x.f2.f4.f4 x.f2.f4.f5 x.f3) true ∨ (Ev (fun m => notaryref35_Large.f m x.f0 x.f1 x.f2.f0 x.f2.f1 x.f2.f2 x.f2.f3 x.f2.f4.f0 x.f2.f4.f1 x.f2.f4.f2 x.f2.f4.f3 x.f2.f4.f4 x.f2.f4.f5 x.f3) false ∧ ((∃ e rb, e ≠ 0 ∧ Ev (fun m => code_Deriv.f m x.f0 x.f1 x.f2.f0 x.f2.f1 x.f2.f2 x.f2.f3 x.f2.f4.f0 x.f2.f4.f1 x.f2.f4.f2 x.f2.f4.f3 x.f2.f4.f4 x.f2.f4.f5 x.f3) ([], e) ∧ Ev (fun m => notaryref36_Deriv.f m x.f0 x.f1 x.f2.f0 x.f2.f1 x.f2.f2 x.f2.f3 x.f2.f4.f0 x.f2.f4.f1 x.f2.f4.f2 x.f2.f4.f3 x.f2.f4.f4 x.f2.f4.f5 x.f3 1) (rb, e)) ∨
      (∃ b, b.length ≤ 1000000 ∧ Ev (fun m => code_Deriv.f m x.f0 x.f1 x.f2.f0 x.f2.f1 x.f2.f2 x.f2.f3 x.f2.f4.f0 x.f2.f4.f1 x.f2.f4.f2 x.f2.f4.f3 x.f2.f4.f4 x.f2.f4.f5 x.f3) (b, 0) ∧ Ev (fun m => notaryref36_Deriv.f m x.f0 x.f1 x.f2.f0 x.f2.f1 x.f2.f2 x.f2.f3 x.f2.f4.f0 x.f2.f4.f1 x.f2.f4.f2 x.f2.f4.f3 x.f2.f4.f4 x.f2.f4.f5 x.f3 1) (b, 0) ∧ Ev (fun m => notaryref01_Same.f m b b) true ∧ Ev (fun m => code_ReadDeriv.f m ([] ++ l0 ++ b ++ l2) (l0.length : Int)) (x.f0, x.f1, x.f2.f0, x.f2.f1, x.f2.f2, x.f2.f3, x.f2.f4.f0, x.f2.f4.f1, x.f2.f4.f2, x.f2.f4.f3, x.f2.f4.f4, x.f2.f4.f5, x.f3, ((l0.length + b.length : Nat) : Int), 0) ∧ Ev (fun m => notaryref35_Same.f m x.f0 x.f1 x.f2.f0 x.f2.f1 x.f2.f2 x.f2.f3 x.f2.f4.f0 x.f2.f4.f1 x.f2.f4.f2 x.f2.f4.f3 x.f2.f4.f4 x.f2.f4.f5 x.f3 x.f0 x.f1 x.f2.f0 x.f2.f1 x.f2.f2 x.f2.f3 x.f2.f4.f0 x.f2.f4.f1 x.f2.f4.f2 x.f2.f4.f3 x.f2.f4.f4 x.f2.f4.f5 x.f3) true))) := by
  obtain ⟨bl, hl, hs⟩ := LDv.dlarge x hF
  cases bl with
  | true => exact .inl hl
  | false =>
  refine .inr ⟨hl, ?_⟩
  obtain ⟨hT, hz⟩ := hs rfl
  obtain ⟨b, e, hE⟩ := LDv.enc_deriv x 20 1 hT (by omega) (by omega) (by omega)
  have lb := hE.len
  obtain ⟨b', c1, c2, c3⟩ := hE.wr [] (by simp; omega)
  obtain ⟨rb, q1, q2, q3⟩ := hE.ref
  have ht : Ev (fun m => code_Deriv.f m x.f0 x.f1 x.f2.f0 x.f2.f1 x.f2.f2 x.f2.f3 x.f2.f4.f0 x.f2.f4.f1 x.f2.f4.f2 x.f2.f4.f3 x.f2.f4.f4 x.f2.f4.f5 x.f3) (if e = 0 then b else [], e) := by
    have c4 : Ev (fun m => code_dw.deriv m ⟨x.f0, x.f1, ⟨x.f2.f0, x.f2.f1, x.f2.f2, x.f2.f3, ⟨x.f2.f4.f0, x.f2.f4.f1, x.f2.f4.f2, x.f2.f4.f3, x.f2.f4.f4, x.f2.f4.f5⟩⟩, x.f3⟩ 1 ([], 0)) (b', e) := Ev.congr (fun m => by rw [etaD]; rfl) c2
    refine Ev.congr (fun m => code_Deriv.f.eq_1 ..) (LEv.bd (b', e) c4 (LEv.fin ?_))
    by_cases he : e = 0
    · rw [c3 he]; simp
    · simp [he]
  by_cases he : e = 0
  case neg =>
    rw [if_neg he] at ht
    exact .inl ⟨e, rb, he, ht, q2⟩
  subst he
  obtain rfl := q3 rfl
  obtain ⟨hb0, hrd⟩ := hE.rd rfl
  rw [if_pos rfl] at ht
  have hB : Byt (l0 ++ rb ++ l2) := (h0.append hE.byt).append h2
  have r := hrd (l0 ++ rb ++ l2) l0 l2 rfl hB (by simp only [List.length_append]; omega)
  have hsm := same_ev rb rb (by omega)
  rw [decide_eq_true rfl] at hsm
  refine .inr ⟨rb, by omega, ht, q2, hsm, ?_, LDv.dsame_self x hF⟩
  rw [List.nil_append]
  have hst : code_ReadTerm.start (l0 ++ rb ++ l2) (l0.length : Int) = 0 := by
    unfold code_ReadTerm.start
    rw [if_neg (by simp only [List.length_append]; omega)]
  refine Ev.congr (fun m => code_ReadDeriv.f.eq_1 ..) ?_
  rw [hst]
  exact LEv.bd _ r (LEv.fin rfl)
set_option maxHeartbeats 8000000 in
set_option maxRecDepth 100000 in
theorem CodeDerivs (w : World) (A0 : Option Addr) (c0 : Nat) (l0 : List Int) (hc0 : l0.length ≤ c0) (hC0 : Kd.C (Kd.int .u8) w A0 l0.length l0) (hw0 : l0.length ≤ maxLen ∧ ∀ x ∈ l0, (Lit.int .u8 x).wf = true) (hb0 : l0.length ≤ 1048576) (cs : Array Value) (x : D) (hK : (k42).K w x cs.toList) (hx : OkD x)
    (A : Option Addr) (c : Nat) (l : List Int) (hc : l.length ≤ c) (hC : Kd.C (Kd.int .u8) w A l.length l) (hw : l.length ≤ maxLen ∧ ∀ x ∈ l, (Lit.int .u8 x).wf = true) (hb : l.length ≤ 1048576) :
    Calls Try.prog 4 #[.slice A0 l0.length c0, .agg cs, .slice A l.length c] w fun e w' => e = .returned (.bool true) ∧ Below w.heap.size w w' := by
  obtain ⟨A1, c1, A4, c4, A5, c5, A9, c9, A12, c12, hcs, l1, g1, l4, g4, l5, g5, l9, g9, l12, g12⟩ := k42_open hK
  have hp := pieces l0 x l (byt_u8 hw0.2) (byt_u8 hw.2) hx.fine hb0 hb
  obtain rfl : cs = #[.int .i64 x.f0, .slice A1 x.f1.length c1, .int .i64 x.f2.f0, .bool x.f2.f1, .slice A4 x.f2.f2.length c4, .slice A5 x.f2.f3.length c5, .int .i64 x.f2.f4.f0, .int .i64 x.f2.f4.f1, .string x.f2.f4.f2, .slice A9 x.f2.f4.f3.length c9, .int .i64 x.f2.f4.f4, .int .i64 x.f2.f4.f5, .slice A12 x.f3.length c12] := by
    have e : cs = cs.toList.toArray := by simp
    rw [e, hcs]
  have hu := Try.underlying42
  have HG1 := Aside0.mk g1
  have HG4 := Aside0.mk g4
  have HG5 := Aside0.mk g5
  have HG9 := Aside0.mk g9
  have HG12 := Aside0.mk g12
  have HL1 := Aside0.mk l1
  have HL4 := Aside0.mk l4
  have HL5 := Aside0.mk l5
  have HL9 := Aside0.mk l9
  have HL12 := Aside0.mk l12
  have H0 := Aside0.mk hC0
  have HC0 := Aside0.mk hc0
  have H2 := Aside0.mk hC
  have HC2 := Aside0.mk hc
  have HS0 := Aside0.mk hb0
  have HS2 := Aside0.mk hb
  obtain ⟨ka, hka⟩ := Ev.rounds awake_ev
  have HA := Aside0.mk hka
  obtain ⟨W1, hW1⟩ : ∃ W : World, W = w.alloc (.cells #[.int .i64 x.f0, .slice A1 x.f1.length c1, .int .i64 x.f2.f0, .bool x.f2.f1, .slice A4 x.f2.f2.length c4, .slice A5 x.f2.f3.length c5, .int .i64 x.f2.f4.f0, .int .i64 x.f2.f4.f1, .string x.f2.f4.f2, .slice A9 x.f2.f4.f3.length c9, .int .i64 x.f2.f4.f4, .int .i64 x.f2.f4.f5, .slice A12 x.f3.length c12] 42) := ⟨_, rfl⟩
  have hb1 : Below w.heap.size w W1 := by rw [hW1]; exact below_alloc (Below.refl _ _) _
  have HX1 : Aside0 (W1.heap[w.heap.size]? = some (.cells #[.int .i64 x.f0, .slice A1 x.f1.length c1, .int .i64 x.f2.f0, .bool x.f2.f1, .slice A4 x.f2.f2.length c4, .slice A5 x.f2.f3.length c5, .int .i64 x.f2.f4.f0, .int .i64 x.f2.f4.f1, .string x.f2.f4.f2, .slice A9 x.f2.f4.f3.length c9, .int .i64 x.f2.f4.f4, .int .i64 x.f2.f4.f5, .slice A12 x.f3.length c12] 42 (0, 0))) := ⟨by rw [hW1]; exact blk_new _ _⟩
  have HB1 := Aside0.mk hb1
  clear hK hx hw0 hw hcs l1 g1 l4 g4 l5 g5 l9 g9 l12 g12 hC0 hc0 hC hc hb0 hb hka hb1
  rcases hp with hl | ⟨hl, ⟨e, rb, he, hd, hr⟩ | ⟨b, hbl, hd, hr, hsm, hrd, hsd⟩⟩
  · obtain ⟨k1, h1⟩ := Ev.rounds hl
    have H1 := Aside0.mk h1
    clear hl h1
    go_enter Try.func4, Try.ntmps4
    go_wp2_with (first | (go_at_call 9; (with_reducible refine (notarylaw36_awake.calls ka true _ HA.out).mono ?_); rintro y wz ⟨rfl, hz⟩; (have HZ := Aside0.mk (below_step HB2.out hz)); clear hz) | (rw [← hW1]; go_at_call 15; (with_reducible refine (notaryref35_Large.calls k1 x.f0 A1 c1 x.f1 x.f2.f0 x.f2.f1 A4 c4 x.f2.f2 A5 c5 x.f2.f3 x.f2.f4.f0 x.f2.f4.f1 x.f2.f4.f2 A9 c9 x.f2.f4.f3 x.f2.f4.f4 x.f2.f4.f5 A12 c12 x.f3 true _ (Kd.C_below (HG1.out) HB1.out) HL1.out (Kd.C_below (HG4.out) HB1.out) HL4.out (Kd.C_below (HG5.out) HB1.out) HL5.out (Kd.C_below (HG9.out) HB1.out) HL9.out (Kd.C_below (HG12.out) HB1.out) HL12.out H1.out).mono ?_); rintro y w2 ⟨rfl, hz⟩; (have HB2 := Aside0.mk (HB1.out.trans (hz.mono (below_size HB1.out)))); (have HX2 := Aside0.mk (blk_below HX1.out hz)); clear hz hW1))
    go_ret
    exact ⟨rfl, HZ.out⟩
  · obtain ⟨k1, h1⟩ := Ev.rounds hl
    obtain ⟨k2, h2⟩ := Ev.rounds hd
    obtain ⟨k3, h3⟩ := Ev.rounds hr
    have H1 := Aside0.mk h1
    have H3 := Aside0.mk h2
    have H4 := Aside0.mk h3
    have d1 : (e == 0) = false := by simpa using he
    have d2 : (e != 0) = true := by simpa using he
    clear hl hd hr h1 h2 h3 he
    go_enter Try.func4, Try.ntmps4
    go_wp2_with (first | (go_at_call 9; (with_reducible refine (notarylaw36_awake.calls ka true _ HA.out).mono ?_); rintro y wz ⟨rfl, hz⟩; (have HZ := Aside0.mk (below_step HB4.out hz)); clear hz) | (go_at_call 17; (with_reducible refine (notaryref36_Deriv.calls k3 x.f0 A1 c1 x.f1 x.f2.f0 x.f2.f1 A4 c4 x.f2.f2 A5 c5 x.f2.f3 x.f2.f4.f0 x.f2.f4.f1 x.f2.f4.f2 A9 c9 x.f2.f4.f3 x.f2.f4.f4 x.f2.f4.f5 A12 c12 x.f3 1 rb e _ (Kd.C_below (HG1.out) HB3.out) HL1.out (Kd.C_below (HG4.out) HB3.out) HL4.out (Kd.C_below (HG5.out) HB3.out) HL5.out (Kd.C_below (HG9.out) HB3.out) HL9.out (Kd.C_below (HG12.out) HB3.out) HL12.out H4.out).mono ?_); rintro y w4 ⟨v, rfl, hv, hz⟩; obtain ⟨Ar, cr, rfl⟩ := Kd.R_slice hv; (have HB4 := Aside0.mk (HB3.out.trans (hz.mono (below_size HB3.out)))); (have HB45 := Aside0.mk hz); (have HX4 := Aside0.mk (blk_below HX3.out hz)); (have HRR := Aside0.mk hv); clear hz hv) | (refine wpList_load_row rfl 42 (.tmp 4) rfl w.heap.size rfl 42 _ (0, 0) _ HX3.out Try.underlying42 rfl (by kernel_rfl) ?_) | (go_at_call 16; (with_reducible refine (code_Deriv.calls k2 x.f0 A1 c1 x.f1 x.f2.f0 x.f2.f1 A4 c4 x.f2.f2 A5 c5 x.f2.f3 x.f2.f4.f0 x.f2.f4.f1 x.f2.f4.f2 A9 c9 x.f2.f4.f3 x.f2.f4.f4 x.f2.f4.f5 A12 c12 x.f3 [] e _ (Kd.C_below (HG1.out) HB2.out) HL1.out (Kd.C_below (HG4.out) HB2.out) HL4.out (Kd.C_below (HG5.out) HB2.out) HL5.out (Kd.C_below (HG9.out) HB2.out) HL9.out (Kd.C_below (HG12.out) HB2.out) HL12.out H3.out).mono ?_); rintro y w3 ⟨v, rfl, hv, hz⟩; obtain ⟨Ab, cb, rfl, lb, fb⟩ := hv; (have HB3 := Aside0.mk (HB2.out.trans (hz.mono (below_size HB2.out)))); (have HX3 := Aside0.mk (blk_below HX2.out hz)); (have HF2 := Aside0.mk fb); (have HLB := Aside0.mk lb); clear hz lb fb) | (refine wpList_load_row rfl 42 (.tmp 4) rfl w.heap.size rfl 42 _ (0, 0) _ HX2.out Try.underlying42 rfl (by kernel_rfl) ?_) | (rw [← hW1]; go_at_call 15; (with_reducible refine (notaryref35_Large.calls k1 x.f0 A1 c1 x.f1 x.f2.f0 x.f2.f1 A4 c4 x.f2.f2 A5 c5 x.f2.f3 x.f2.f4.f0 x.f2.f4.f1 x.f2.f4.f2 A9 c9 x.f2.f4.f3 x.f2.f4.f4 x.f2.f4.f5 A12 c12 x.f3 false _ (Kd.C_below (HG1.out) HB1.out) HL1.out (Kd.C_below (HG4.out) HB1.out) HL4.out (Kd.C_below (HG5.out) HB1.out) HL5.out (Kd.C_below (HG9.out) HB1.out) HL9.out (Kd.C_below (HG12.out) HB1.out) HL12.out H1.out).mono ?_); rintro y w2 ⟨rfl, hz⟩; (have HB2 := Aside0.mk (HB1.out.trans (hz.mono (below_size HB1.out)))); (have HX2 := Aside0.mk (blk_below HX1.out hz)); clear hz hW1))
    go_ret
    exact ⟨rfl, HZ.out⟩
  · obtain ⟨k1, h1⟩ := Ev.rounds hl
    obtain ⟨k2, h2⟩ := Ev.rounds hd
    obtain ⟨k3, h3⟩ := Ev.rounds hr
    obtain ⟨k4, h4⟩ := Ev.rounds hsm
    obtain ⟨k5, h5⟩ := Ev.rounds hrd
    obtain ⟨k6, h6⟩ := Ev.rounds hsd
    obtain ⟨y1, hy1⟩ : ∃ y, y = [] ++ l0 := ⟨_, rfl⟩
    obtain ⟨y2, hy2⟩ : ∃ y, y = y1 ++ b := ⟨_, rfl⟩
    obtain ⟨y3, hy3⟩ : ∃ y, y = y2 ++ l := ⟨_, rfl⟩
    rw [← hy1, ← hy2, ← hy3] at h5
    have q1 : y1.length = l0.length := by rw [hy1]; simp
    have q2 : y2.length = l0.length + b.length := by rw [hy2]; simp; omega
    have H1 := Aside0.mk h1
    have H3 := Aside0.mk h2
    have H4 := Aside0.mk h3
    have H5 := Aside0.mk h4
    have H6 := Aside0.mk h5
    have H7 := Aside0.mk h6
    have Y1 := Aside0.mk hy1
    have Y2 := Aside0.mk hy2
    have Y3 := Aside0.mk hy3
    have Q1 := Aside0.mk q1
    have Q2 := Aside0.mk q2
    have HBL := Aside0.mk hbl
    have dl : IntKind.i64.wrap ((l0.length : Int) + (b.length : Int)) = ((l0.length + b.length : Nat) : Int) := by rw [show (l0.length : Int) + (b.length : Int) = ((l0.length + b.length : Nat) : Int) by omega]; exact IntWalk.i64_in _ (by have := HS0.out; omega)
    generalize ((l0.length + b.length : Nat) : Int) = z at *
    clear hl hd hr hsm hrd hsd h1 h2 h3 h4 h5 h6 hy1 hy2 hy3 q1 q2 hbl
    go_enter Try.func4, Try.ntmps4
    go_wp2_with (first | (go_at_call 9; (with_reducible refine (notarylaw36_awake.calls ka true _ HA.out).mono ?_); rintro y wz ⟨rfl, hz⟩; (have HZ := Aside0.mk (below_step HB10.out hz)); clear hz) | (go_at_call 19; (with_reducible refine (notaryref35_Same.calls k6 x.f0 B1 n1 x.f1 x.f2.f0 x.f2.f1 B4 n4 x.f2.f2 B5 n5 x.f2.f3 x.f2.f4.f0 x.f2.f4.f1 x.f2.f4.f2 B9 n9 x.f2.f4.f3 x.f2.f4.f4 x.f2.f4.f5 B12 n12 x.f3 x.f0 A1 c1 x.f1 x.f2.f0 x.f2.f1 A4 c4 x.f2.f2 A5 c5 x.f2.f3 x.f2.f4.f0 x.f2.f4.f1 x.f2.f4.f2 A9 c9 x.f2.f4.f3 x.f2.f4.f4 x.f2.f4.f5 A12 c12 x.f3 true _ HF1.out HM1.out HF4.out HM4.out HF5.out HM5.out HF9.out HM9.out HF12.out HM12.out (Kd.C_below (HG1.out) HB9.out) HL1.out (Kd.C_below (HG4.out) HB9.out) HL4.out (Kd.C_below (HG5.out) HB9.out) HL5.out (Kd.C_below (HG9.out) HB9.out) HL9.out (Kd.C_below (HG12.out) HB9.out) HL12.out H7.out).mono ?_); rintro y wi ⟨rfl, hz⟩; (have HB10 := Aside0.mk (HB9.out.trans (hz.mono (below_size HB9.out)))); clear hz) | ((try (refine gate_guard (by rfl) ?_; dsimp only)); refine wpList_load_row rfl 42 (.tmp 4) rfl w.heap.size rfl 42 _ (0, 0) _ HX9.out Try.underlying42 rfl (by kernel_rfl) ?_) | ((try (refine gate_guard (by rfl) ?_; dsimp only)); refine wpList_load_row rfl 42 (.tmp 12) rfl wh.heap.size rfl 42 _ (0, 0) _ HV9.out Try.underlying42 rfl (by kernel_rfl) ?_) | (go_at_call 18; (with_reducible refine (code_ReadDeriv.calls k5 Ay cy y3 (l0.length : Int) x.f0 x.f1 x.f2.f0 x.f2.f1 x.f2.f2 x.f2.f3 x.f2.f4.f0 x.f2.f4.f1 x.f2.f4.f2 x.f2.f4.f3 x.f2.f4.f4 x.f2.f4.f5 x.f3 z 0 _ (Kd.R_reads' HR3.out).2.2 (Kd.R_reads' HR3.out).2.1 H6.out).mono ?_); rintro y wh ⟨v1, v4, v5, v9, v12, rfl, hv1, hv4, hv5, hv9, hv12, hz⟩; (obtain ⟨B1, n1, rfl, m1, f1⟩ := hv1); (obtain ⟨B4, n4, rfl, m4, f4⟩ := hv4); (obtain ⟨B5, n5, rfl, m5, f5⟩ := hv5); (obtain ⟨B9, n9, rfl, m9, f9⟩ := hv9); (obtain ⟨B12, n12, rfl, m12, f12⟩ := hv12); (have hbh : Below w.heap.size w wh := below_step HB8.out hz); (have HB9 : Aside0 (Below w.heap.size w (wh.alloc (.cells #[.int .i64 x.f0, .slice B1 x.f1.length n1, .int .i64 x.f2.f0, .bool x.f2.f1, .slice B4 x.f2.f2.length n4, .slice B5 x.f2.f3.length n5, .int .i64 x.f2.f4.f0, .int .i64 x.f2.f4.f1, .string x.f2.f4.f2, .slice B9 x.f2.f4.f3.length n9, .int .i64 x.f2.f4.f4, .int .i64 x.f2.f4.f5, .slice B12 x.f3.length n12] 42))) := ⟨below_alloc hbh _⟩); (have HX9 : Aside0 ((wh.alloc (.cells #[.int .i64 x.f0, .slice B1 x.f1.length n1, .int .i64 x.f2.f0, .bool x.f2.f1, .slice B4 x.f2.f2.length n4, .slice B5 x.f2.f3.length n5, .int .i64 x.f2.f4.f0, .int .i64 x.f2.f4.f1, .string x.f2.f4.f2, .slice B9 x.f2.f4.f3.length n9, .int .i64 x.f2.f4.f4, .int .i64 x.f2.f4.f5, .slice B12 x.f3.length n12] 42)).heap[w.heap.size]? = some (.cells #[.int .i64 x.f0, .slice A1 x.f1.length c1, .int .i64 x.f2.f0, .bool x.f2.f1, .slice A4 x.f2.f2.length c4, .slice A5 x.f2.f3.length c5, .int .i64 x.f2.f4.f0, .int .i64 x.f2.f4.f1, .string x.f2.f4.f2, .slice A9 x.f2.f4.f3.length c9, .int .i64 x.f2.f4.f4, .int .i64 x.f2.f4.f5, .slice A12 x.f3.length c12] 42 (0, 0))) := ⟨blk_alloc (blk_below HX8.out hz) _⟩); (have HV9 : Aside0 ((wh.alloc (.cells #[.int .i64 x.f0, .slice B1 x.f1.length n1, .int .i64 x.f2.f0, .bool x.f2.f1, .slice B4 x.f2.f2.length n4, .slice B5 x.f2.f3.length n5, .int .i64 x.f2.f4.f0, .int .i64 x.f2.f4.f1, .string x.f2.f4.f2, .slice B9 x.f2.f4.f3.length n9, .int .i64 x.f2.f4.f4, .int .i64 x.f2.f4.f5, .slice B12 x.f3.length n12] 42)).heap[wh.heap.size]? = some (.cells #[.int .i64 x.f0, .slice B1 x.f1.length n1, .int .i64 x.f2.f0, .bool x.f2.f1, .slice B4 x.f2.f2.length n4, .slice B5 x.f2.f3.length n5, .int .i64 x.f2.f4.f0, .int .i64 x.f2.f4.f1, .string x.f2.f4.f2, .slice B9 x.f2.f4.f3.length n9, .int .i64 x.f2.f4.f4, .int .i64 x.f2.f4.f5, .slice B12 x.f3.length n12] 42 (0, 0))) := ⟨blk_new _ _⟩); (have HF1 := Aside0.mk (Kd.C_below (Kd.F_now f1) (below_alloc (Below.refl _ _) (.cells #[.int .i64 x.f0, .slice B1 x.f1.length n1, .int .i64 x.f2.f0, .bool x.f2.f1, .slice B4 x.f2.f2.length n4, .slice B5 x.f2.f3.length n5, .int .i64 x.f2.f4.f0, .int .i64 x.f2.f4.f1, .string x.f2.f4.f2, .slice B9 x.f2.f4.f3.length n9, .int .i64 x.f2.f4.f4, .int .i64 x.f2.f4.f5, .slice B12 x.f3.length n12] 42)))); (have HM1 := Aside0.mk m1); (have HF4 := Aside0.mk (Kd.C_below (Kd.F_now f4) (below_alloc (Below.refl _ _) (.cells #[.int .i64 x.f0, .slice B1 x.f1.length n1, .int .i64 x.f2.f0, .bool x.f2.f1, .slice B4 x.f2.f2.length n4, .slice B5 x.f2.f3.length n5, .int .i64 x.f2.f4.f0, .int .i64 x.f2.f4.f1, .string x.f2.f4.f2, .slice B9 x.f2.f4.f3.length n9, .int .i64 x.f2.f4.f4, .int .i64 x.f2.f4.f5, .slice B12 x.f3.length n12] 42)))); (have HM4 := Aside0.mk m4); (have HF5 := Aside0.mk (Kd.C_below (Kd.F_now f5) (below_alloc (Below.refl _ _) (.cells #[.int .i64 x.f0, .slice B1 x.f1.length n1, .int .i64 x.f2.f0, .bool x.f2.f1, .slice B4 x.f2.f2.length n4, .slice B5 x.f2.f3.length n5, .int .i64 x.f2.f4.f0, .int .i64 x.f2.f4.f1, .string x.f2.f4.f2, .slice B9 x.f2.f4.f3.length n9, .int .i64 x.f2.f4.f4, .int .i64 x.f2.f4.f5, .slice B12 x.f3.length n12] 42)))); (have HM5 := Aside0.mk m5); (have HF9 := Aside0.mk (Kd.C_below (Kd.F_now f9) (below_alloc (Below.refl _ _) (.cells #[.int .i64 x.f0, .slice B1 x.f1.length n1, .int .i64 x.f2.f0, .bool x.f2.f1, .slice B4 x.f2.f2.length n4, .slice B5 x.f2.f3.length n5, .int .i64 x.f2.f4.f0, .int .i64 x.f2.f4.f1, .string x.f2.f4.f2, .slice B9 x.f2.f4.f3.length n9, .int .i64 x.f2.f4.f4, .int .i64 x.f2.f4.f5, .slice B12 x.f3.length n12] 42)))); (have HM9 := Aside0.mk m9); (have HF12 := Aside0.mk (Kd.C_below (Kd.F_now f12) (below_alloc (Below.refl _ _) (.cells #[.int .i64 x.f0, .slice B1 x.f1.length n1, .int .i64 x.f2.f0, .bool x.f2.f1, .slice B4 x.f2.f2.length n4, .slice B5 x.f2.f3.length n5, .int .i64 x.f2.f4.f0, .int .i64 x.f2.f4.f1, .string x.f2.f4.f2, .slice B9 x.f2.f4.f3.length n9, .int .i64 x.f2.f4.f4, .int .i64 x.f2.f4.f5, .slice B12 x.f3.length n12] 42)))); (have HM12 := Aside0.mk m12); clear hz hbh) | ((with_reducible refine gate_builtin (b := .append) (xs := #[.tmp 53, .tmp 54]) rfl ?_); at_builtin; refine Kd.R_append_rows (Kd.int .u8) (w0 := (w4.drewN m5)) (w4.drewN m5).heap.size rfl (.tmp 53) (.tmp 54) 22 5 (.int .u8 0) 1 rfl Try.underlying22 info5 rfl (by decide) (by omega) v2 y2 l _ _ _ (fun _ => True) (fun _ => False) rfl rfl ?aO ?aR (fun _ _ h => h) (fun _ h => h.elim) ?aF ?aB ?aS ?aL ?_; (case aR => exact H2b.out); (case aB => exact HB7b.out); (case aF => exact (fun _ _ => trivial)); (case aO => exact HR2.out); (case aS => exact (below_size HB7b.out)); (case aL => (have := HS0.out; have := HS2.out; have := HBL.out; have := Q2.out; omega)); intro v3 wk ho hz hg hat; rw [← Y3.out] at ho; (have HR3 := Aside0.mk ho); (have HB7c := Aside0.mk hz); obtain ⟨Ay, cy, rfl⟩ := Kd.R_slice ho; (have HB8 := Aside0.mk (HB5.out.trans (hz.mono (below_size HB5.out)))); (have HX8 := Aside0.mk (blk_below HX5.out hz)); clear ho hz hg hat) | ((with_reducible refine gate_builtin (b := .append) (xs := #[.tmp 51, .tmp 52]) rfl ?_); at_builtin; refine Kd.R_append_rows (Kd.int .u8) (w0 := (w4.drewN m5)) (w4.drewN m5).heap.size rfl (.tmp 51) (.tmp 52) 22 5 (.int .u8 0) 1 rfl Try.underlying22 info5 rfl (by decide) (by omega) v1 y1 b _ _ _ (fun _ => True) (fun _ => False) rfl rfl ?aO ?aR (fun _ _ h => h) (fun _ h => h.elim) ?aF ?aB ?aS ?aL ?_; (case aR => exact HBb2.out); (case aB => exact HB7.out); (case aF => exact (fun _ _ => trivial)); (case aO => exact HR1.out); (case aS => exact (below_size HB7.out)); (case aL => (have := HS0.out; have := HBL.out; have := Q1.out; omega)); intro v2 wg ho hz hg hat; rw [← Y2.out] at ho; (have HR2 := Aside0.mk ho); (have HB7b := Aside0.mk hz); (have H2b := Aside0.mk (Kd.C_below (Kd.C_below H2.out HB5.out) hz)); clear ho hz hg hat) | ((with_reducible refine gate_builtin (b := .append) (xs := #[.tmp 49, .tmp 50]) rfl ?_); at_builtin; refine Kd.R_append_rows (Kd.int .u8) (w0 := (w4.drewN m5)) (w4.drewN m5).heap.size rfl (.tmp 49) (.tmp 50) 22 5 (.int .u8 0) 1 rfl Try.underlying22 info5 rfl (by decide) (by omega) v0 ([] : List Int) l0 _ _ _ (fun _ => True) (fun _ => False) rfl rfl ?aO ?aR (fun _ _ h => h) (fun _ h => h.elim) ?aF ?aB ?aS ?aL ?_; (case aR => exact H0b.out); (case aB => exact HB6.out); (case aF => exact (fun _ _ => trivial)); (case aO => exact HR0.out); (case aS => exact (below_size HB6.out)); (case aL => (have := HS0.out; simp; omega)); intro v1 wf ho hz hg hat; rw [← Y1.out] at ho; (have HR1 := Aside0.mk ho); (have HB7 := Aside0.mk hz); (have HBb2 := Aside0.mk (Kd.C_below HBb.out hz)); clear ho hz hg hat) | ((with_reducible refine gate_dst (N := 49) rfl ?_); refine Kd.R_lit (Kd.int .u8) (w0 := (w4.drewN m5)) (w4.drewN m5).heap.size 5 ?hg (N := 49) ?hd (xs := ([] : List Int)) (inner := []) (ok := fun _ => True) (okp := fun _ => True) ?hr ?hp (fun _ hk => hk) trivial (Below.refl _ _) (Nat.le_refl _) (by simp) ?_; (case hd => rfl); (case hg => rfl); (case hr => (go_simp; done)); (case hp => exact (Reps.none _ _)); intro v0 we ho hz hg_ hnew_; (have HR0 := Aside0.mk ho); (have HB6 := Aside0.mk hz); (have H0b := Aside0.mk (Kd.C_below (Kd.C_below H0.out HB5.out) hz)); clear hg_ hnew_ ho hz) | (go_at_call 12; (with_reducible refine (notaryref01_Same.calls k4 Ab cb b Ar cr b true _ (Kd.C_below (Kd.F_now HF2.out) HB45.out) HLB.out (Kd.R_reads' HRR.out).2.2 (Kd.R_reads' HRR.out).2.1 H5.out).mono ?_); rintro y wd ⟨rfl, hz⟩; obtain ⟨m5, rfl⟩ := hz.out; (have HB5 : Aside0 (Below w.heap.size w (w4.drewN m5)) := ⟨pw_below_drewN HB4.out m5⟩); (have HX5 : Aside0 ((w4.drewN m5).heap[w.heap.size]? = some (.cells #[.int .i64 x.f0, .slice A1 x.f1.length c1, .int .i64 x.f2.f0, .bool x.f2.f1, .slice A4 x.f2.f2.length c4, .slice A5 x.f2.f3.length c5, .int .i64 x.f2.f4.f0, .int .i64 x.f2.f4.f1, .string x.f2.f4.f2, .slice A9 x.f2.f4.f3.length c9, .int .i64 x.f2.f4.f4, .int .i64 x.f2.f4.f5, .slice A12 x.f3.length c12] 42 (0, 0))) := ⟨blk_drewN HX4.out m5⟩); (have HBb : Aside0 (Kd.C (Kd.int .u8) (w4.drewN m5) Ab b.length b) := ⟨Kd.C_drewN (Kd.C_below (Kd.F_now HF2.out) HB45.out) m5⟩); clear hz) | (go_at_call 17; (with_reducible refine (notaryref36_Deriv.calls k3 x.f0 A1 c1 x.f1 x.f2.f0 x.f2.f1 A4 c4 x.f2.f2 A5 c5 x.f2.f3 x.f2.f4.f0 x.f2.f4.f1 x.f2.f4.f2 A9 c9 x.f2.f4.f3 x.f2.f4.f4 x.f2.f4.f5 A12 c12 x.f3 1 b 0 _ (Kd.C_below (HG1.out) HB3.out) HL1.out (Kd.C_below (HG4.out) HB3.out) HL4.out (Kd.C_below (HG5.out) HB3.out) HL5.out (Kd.C_below (HG9.out) HB3.out) HL9.out (Kd.C_below (HG12.out) HB3.out) HL12.out H4.out).mono ?_); rintro y w4 ⟨v, rfl, hv, hz⟩; obtain ⟨Ar, cr, rfl⟩ := Kd.R_slice hv; (have HB4 := Aside0.mk (HB3.out.trans (hz.mono (below_size HB3.out)))); (have HB45 := Aside0.mk hz); (have HX4 := Aside0.mk (blk_below HX3.out hz)); (have HRR := Aside0.mk hv); clear hz hv) | (refine wpList_load_row rfl 42 (.tmp 4) rfl w.heap.size rfl 42 _ (0, 0) _ HX3.out Try.underlying42 rfl (by kernel_rfl) ?_) | (go_at_call 16; (with_reducible refine (code_Deriv.calls k2 x.f0 A1 c1 x.f1 x.f2.f0 x.f2.f1 A4 c4 x.f2.f2 A5 c5 x.f2.f3 x.f2.f4.f0 x.f2.f4.f1 x.f2.f4.f2 A9 c9 x.f2.f4.f3 x.f2.f4.f4 x.f2.f4.f5 A12 c12 x.f3 b 0 _ (Kd.C_below (HG1.out) HB2.out) HL1.out (Kd.C_below (HG4.out) HB2.out) HL4.out (Kd.C_below (HG5.out) HB2.out) HL5.out (Kd.C_below (HG9.out) HB2.out) HL9.out (Kd.C_below (HG12.out) HB2.out) HL12.out H3.out).mono ?_); rintro y w3 ⟨v, rfl, hv, hz⟩; obtain ⟨Ab, cb, rfl, lb, fb⟩ := hv; (have HB3 := Aside0.mk (HB2.out.trans (hz.mono (below_size HB2.out)))); (have HX3 := Aside0.mk (blk_below HX2.out hz)); (have HF2 := Aside0.mk fb); (have HLB := Aside0.mk lb); clear hz lb fb) | (refine wpList_load_row rfl 42 (.tmp 4) rfl w.heap.size rfl 42 _ (0, 0) _ HX2.out Try.underlying42 rfl (by kernel_rfl) ?_) | (rw [← hW1]; go_at_call 15; (with_reducible refine (notaryref35_Large.calls k1 x.f0 A1 c1 x.f1 x.f2.f0 x.f2.f1 A4 c4 x.f2.f2 A5 c5 x.f2.f3 x.f2.f4.f0 x.f2.f4.f1 x.f2.f4.f2 A9 c9 x.f2.f4.f3 x.f2.f4.f4 x.f2.f4.f5 A12 c12 x.f3 false _ (Kd.C_below (HG1.out) HB1.out) HL1.out (Kd.C_below (HG4.out) HB1.out) HL4.out (Kd.C_below (HG5.out) HB1.out) HL5.out (Kd.C_below (HG9.out) HB1.out) HL9.out (Kd.C_below (HG12.out) HB1.out) HL12.out H1.out).mono ?_); rintro y w2 ⟨rfl, hz⟩; (have HB2 := Aside0.mk (HB1.out.trans (hz.mono (below_size HB1.out)))); (have HX2 := Aside0.mk (blk_below HX1.out hz)); clear hz hW1))
    go_ret
    exact ⟨rfl, HZ.out⟩
end Go.Proofs.Ytiamcmjdoobaeaa.Walk
