/- The law of terms as bytes, for every input of its row. -/
import Derived.Test.YtiamcmjdoobaeaaLCode
import Derived.Test.YtiamcmjdoobaeaaWTermOp
import Derived.Test.YtiamcmjdoobaeaaPCtx2
import Derived.Test.YtiamcmjdoobaeaaPCtx5
import Derived.Test.YtiamcmjdoobaeaaPCtx6
import Derived.Test.YtiamcmjdoobaeaaPCtx8
namespace Go.Proofs.Ytiamcmjdoobaeaa.Walk
set_option linter.unusedVariables false
set_option linter.unusedSimpArgs false
open Go.RowKit Go.Proofs.Ytiamcmjdoobaeaa.PCt Go.Proofs.Ytiamcmjdoobaeaa.SOpen Go.Proofs.YtiamcmjdoobaeaaW.PrintWords Go.Proofs.YtiamcmjdoobaeaaW.PrintLast Go.Proofs.YtiamcmjdoobaeaaW.PrintMore
open LTerm (T Fine Small)
open SVarint LVarint LCode
theorem opBytes : SOpen.Op Try.prog 22 (Kd.slice 5 (Kd.int .u8)) (fun l => l.length ≤ maxLen ∧ ∀ x ∈ l, (Lit.int .u8 x).wf = true) :=
  op_mono (op_slice Try.underlying22 (by kernel_rfl) (op_int Try.underlying5)) (fun _ h => h)
theorem byt_u8 {l : List Int} (h : ∀ x ∈ l, (Lit.int .u8 x).wf = true) : Byt l := by
  intro x hx
  have := h x hx
  simp [Lit.wf, IntKind.min, IntKind.max, IntKind.signed, IntKind.bits] at this
  omega
theorem wf_i64 (a : Int) (h : (Lit.int .i64 a).wf = true) : -9223372036854775808 ≤ a ∧ a < 9223372036854775808 := by
  simp [Lit.wf, IntKind.min, IntKind.max, IntKind.signed, IntKind.bits] at h
  omega
theorem ok_num {x : T} : Ok x → Num x := by
  induction x using LTerm.ind with
  | h x ih =>
  intro h
  cases h with
  | mk _ _ h1 _ _ hs _ _ => exact Num.mk x (wf_i64 _ h1) (fun y hy => ih y hy (hs y hy))
theorem eta (x : T) : (⟨x.f0, x.f1, x.f2, x.f3, x.f4, x.f5⟩ : T) = x := by cases x; rfl
theorem codeTerms (l0 : List Int) (x : T) (l2 : List Int) (h0 : Byt l0) (h2 : Byt l2) (hF : Fine x) (hN : Num x) (b0 : l0.length ≤ 1048576) (b2 : l2.length ≤ 1048576) :
    Ev (fun m => notarylaw36_CodeTerms.f m l0 x.f0 x.f1 x.f2 x.f3 x.f4 x.f5 l2) true := by
  obtain ⟨bl, hl, hs⟩ := LTerm.large_ev x hF
  refine Ev.congr (fun m => notarylaw36_CodeTerms.f.eq_1 ..) (LEv.bd bl hl ?_)
  cases bl with
  | true => exact LEv.pos rfl (LEv.bd true awake_ev (Ev.now _))
  | false =>
  refine LEv.neg (by decide) ?_
  obtain ⟨hS, hz⟩ := hs rfl
  obtain ⟨b, e, hE⟩ := enc_term x 70 1 hS hN (by omega) (by omega) (by omega)
  have lb := hE.len
  obtain ⟨b', c1, c2, c3⟩ := hE.wr [] (by simp; omega)
  have ht : Ev (fun m => code_Term.f m x.f0 x.f1 x.f2 x.f3 x.f4 x.f5) (if e = 0 then b else [], e) := by
    have c4 : Ev (fun m => code_wr.term m ⟨x.f0, x.f1, x.f2, x.f3, x.f4, x.f5⟩ 1 ([], 0)) (b', e) := Ev.congr (fun m => by rw [eta]; rfl) c2
    refine Ev.congr (fun m => code_Term.f.eq_1 ..) (LEv.bd (b', e) c4 (LEv.fin ?_))
    by_cases he : e = 0
    · rw [c3 he]; simp
    · simp [he]
  refine LEv.bd _ ht (LEv.bd _ hE.ref (LEv.pos rfl ?_))
  by_cases he : e = 0
  case neg =>
    refine LEv.neg he (Ev.step (fun m => notarylaw36_CodeTerms.j0.eq_2 ..) (LEv.neg (by decide) (LEv.neg he (LEv.pos ?_ (LEv.bd true awake_ev (Ev.now _))))))
    rw [if_neg he]
    rfl
  subst he
  obtain ⟨hb0, hrd⟩ := hE.rd rfl
  simp only [if_true]
  refine LEv.bd _ (same_ev b b (by omega)) ?_
  rw [show (!decide (b = b)) = false by simp]
  refine Ev.step (fun m => notarylaw36_CodeTerms.j0.eq_2 ..) (LEv.neg (by simp) (LEv.pos rfl (LEv.sb ?_)))
  refine LEv.pos (by simp only [List.length_nil]; omega) (LEv.sb ?_)
  refine LEv.pos (by simp only [List.length_append, List.length_nil]; omega) (LEv.sb ?_)
  refine LEv.pos (by simp only [List.length_append, List.length_nil]; omega) ?_
  have hB : Byt (l0 ++ b ++ l2) := (h0.append hE.byt).append h2
  have r := hrd (l0 ++ b ++ l2) l0 l2 rfl hB (by simp only [List.length_append]; omega)
  have hrt : Ev (fun m => code_ReadTerm.f m ([] ++ l0 ++ b ++ l2) (l0.length : Int)) (x.f0, x.f1, x.f2, x.f3, x.f4, x.f5, ((l0.length + b.length : Nat) : Int), 0) := by
    rw [List.nil_append]
    have hst : code_ReadTerm.start (l0 ++ b ++ l2) (l0.length : Int) = 0 := by
      unfold code_ReadTerm.start
      rw [if_neg (by simp only [List.length_append]; omega)]
    refine Ev.congr (fun m => code_ReadTerm.f.eq_1 ..) ?_
    rw [hst]
    exact LEv.bd _ r (LEv.fin rfl)
  refine LEv.bd _ hrt (LEv.pos rfl (LEv.pos ?_ (LEv.bd true (placed_self x hF) (LEv.pos rfl (LEv.bd true awake_ev (Ev.now _))))))
  show ((l0.length + b.length : Nat) : Int) = wrap64 ((l0.length : Int) + (b.length : Int))
  rw [w64 _ (by omega) (by omega)]
  omega
theorem CodeTerms (w : World) (A0 : Option Addr) (c0 : Nat) (l0 : List Int) (hc0 : l0.length ≤ c0) (hC0 : Kd.C (Kd.int .u8) w A0 l0.length l0) (hw0 : l0.length ≤ maxLen ∧ ∀ x ∈ l0, (Lit.int .u8 x).wf = true) (hb0 : l0.length ≤ 1048576) (cs : Array Value) (x : S25) (hK : (k25).K w x cs.toList) (hx : Ok x)
    (A : Option Addr) (c : Nat) (l : List Int) (hc : l.length ≤ c) (hC : Kd.C (Kd.int .u8) w A l.length l) (hw : l.length ≤ maxLen ∧ ∀ x ∈ l, (Lit.int .u8 x).wf = true) (hb : l.length ≤ 1048576) :
    Calls Try.prog 3 #[.slice A0 l0.length c0, .agg cs, .slice A l.length c] w fun e w' => e = .returned (.bool true) ∧ Below w.heap.size w w' := by
  obtain ⟨A3, c3, hcs, h1, h2⟩ := k25_open hK
  obtain rfl : cs = #[.int .i64 x.f0, .int .i64 x.f1, .string x.f2, .slice A3 x.f3.length c3, .int .i64 x.f4, .int .i64 x.f5] := by
    have e : cs = cs.toList.toArray := by simp
    rw [e, hcs]
  obtain ⟨k, hk⟩ := Ev.rounds (codeTerms l0 x l (byt_u8 hw0.2) (byt_u8 hw.2) hx.fine (ok_num hx) hb0 hb)
  refine (notarylaw36_CodeTerms.calls k A0 c0 l0 x.f0 x.f1 x.f2 A3 c3 x.f3 x.f4 x.f5 A c l true w hC0 hc0 h2 h1 hC hc hk).mono ?_
  rintro e w' ⟨rfl, hd⟩
  exact ⟨rfl, hd⟩
end Go.Proofs.Ytiamcmjdoobaeaa.Walk
