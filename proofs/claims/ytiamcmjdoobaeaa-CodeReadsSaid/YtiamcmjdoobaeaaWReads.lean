/- The law of bytes read as terms and as derivations, for every input of its row. -/
import Derived.Test.YtiamcmjdoobaeaaLRe
import Derived.Test.YtiamcmjdoobaeaaLSm
import Derived.Test.YtiamcmjdoobaeaaSOpen
import Derived.Test.YtiamcmjdoobaeaaPCex3
import Derived.Test.YtiamcmjdoobaeaaPCex4
import Derived.Test.YtiamcmjdoobaeaaPCex5
import Derived.Test.YtiamcmjdoobaeaaPCex6
import Derived.Test.YtiamcmjdoobaeaaPCex8
import Derived.Test.YtiamcmjdoobaeaaPCex9
import Derived.Test.YtiamcmjdoobaeaaPCex11
import Derived.Test.YtiamcmjdoobaeaaPCex13
import Derived.Test.YtiamcmjdoobaeaaPCex14
namespace Go.Proofs.Ytiamcmjdoobaeaa.Walk
set_option linter.unusedVariables false
set_option linter.unusedSimpArgs false
open Go.RowKit Go.Proofs.Ytiamcmjdoobaeaa.PCe Go.Proofs.Ytiamcmjdoobaeaa.SOpen Go.Proofs.YtiamcmjdoobaeaaW.PrintWords Go.Proofs.YtiamcmjdoobaeaaW.PrintLast Go.Proofs.YtiamcmjdoobaeaaW.PrintMore
open LTerm (T Fine)
open SVarint LVarint LCd LRd
open LDv (D S FineD TameD GoodD)
theorem opBytes : SOpen.Op Try.prog 22 (Kd.slice 5 (Kd.int .u8)) (fun l => l.length ≤ maxLen ∧ ∀ x ∈ l, (Lit.int .u8 x).wf = true) :=
  op_mono (op_slice Try.underlying22 (by kernel_rfl) (op_int Try.underlying5)) (fun _ h => h)
theorem byt_u8 {l : List Int} (h : ∀ x ∈ l, (Lit.int .u8 x).wf = true) : Byt l := by
  intro x hx
  have := h x hx
  simp [Lit.wf, IntKind.min, IntKind.max, IntKind.signed, IntKind.bits] at this
  omega
theorem tame_fine : ∀ (x : T) {n : Nat}, Tame n x → Fine x := by
  intro x
  induction x using LTerm.ind with
  | h x ih => intro n h; cases h with | mk n _ h1 h2 => exact Fine.mk x (by omega) (fun y hy => ih y hy (h2 y hy))
theorem tameD_fine : ∀ (x : D) {n : Nat}, TameD n x → FineD x := by
  intro x
  induction x using LDv.indD with
  | h x ih => intro n h; cases h with | mk n _ h1 h3 hs h2 => exact FineD.mk x (by omega) (by omega) (by have := hs.l2; omega) (by have := hs.l3; omega) (tame_fine _ hs.t) hs.n (fun y hy => ih y hy (h2 y hy))
@[reducible] def zT : T := ⟨0, 0, ⟨#[]⟩, [], 0, 0⟩
theorem fine_zT : Fine zT := Fine.mk _ (Nat.zero_le _) (fun y hy => by cases hy)
theorem fine_zD : FineD zD := FineD.mk _ (Nat.zero_le _) (Nat.zero_le _) (Nat.zero_le _) (Nat.zero_le _) fine_zT (Num.mk _ ⟨by decide, by decide⟩ (fun y hy => by cases hy)) (fun y hy => by cases hy)
theorem same_true (l : List Int) (h : l.length ≤ 281474976710656) : Ev (fun m => notaryref01_Same.f m l l) true := by
  have := same_ev l l h
  rw [decide_eq_true rfl] at this
  exact this
theorem zsame : Ev (fun m => notaryref36_Same.f m zD.f0 zD.f1 zD.f2.f0 zD.f2.f1 zD.f2.f2 zD.f2.f3 zD.f2.f4.f0 zD.f2.f4.f1 zD.f2.f4.f2 zD.f2.f4.f3 zD.f2.f4.f4 zD.f2.f4.f5 zD.f3 zD.f0 zD.f1 zD.f2.f0 zD.f2.f1 zD.f2.f2 zD.f2.f3 zD.f2.f4.f0 zD.f2.f4.f1 zD.f2.f4.f2 zD.f2.f4.f3 zD.f2.f4.f4 zD.f2.f4.f5 zD.f3) true :=
  Ev.congr (fun m => notaryref36_Same.f.eq_1 ..) (LEv.bd _ (LDv.dsame_self zD fine_zD) (LEv.pos rfl (LEv.bd _ (placed_self zT fine_zT) (Ev.now _))))
/-- read at a place that is not there -/
theorem outside (b : List Int) (at_ : Int) (hl : b.length ≤ 2000) (h : at_ < 0 ∨ (b.length : Int) < at_) : Ev (fun m => code_ReadTerm.f m b at_) (0, 0, ⟨#[]⟩, [], 0, 0, 0, 13) ∧ Ev (fun m => code_ReadDeriv.f m b at_) (0, [], 0, false, [], [], 0, 0, ⟨#[]⟩, [], 0, 0, [], 0, 13) := by
  have hst : code_ReadTerm.start b at_ = 13 := if_pos h
  refine ⟨Ev.congr (fun m => code_ReadTerm.f.eq_1 ..) ?_, Ev.congr (fun m => code_ReadDeriv.f.eq_1 ..) ?_⟩
  · rw [hst]
    exact LEv.bd _ (term_err b 0 at_ 13 (by decide) (by omega) (by omega)) (LEv.fin rfl)
  · rw [hst]
    exact LEv.bd _ (dderiv_err b 0 at_ 13 (by decide) (by omega) (by omega)) (LEv.fin rfl)
/-- read as a term at a place that is there -/
theorem inT {b : List Int} (hB : Fit b) {p : Nat} (hp : p ≤ b.length) : ∃ (x : T) (tw e : Int), Ev (fun m => code_ReadTerm.f m b (p : Int)) (x.f0, x.f1, x.f2, x.f3, x.f4, x.f5, tw, e) ∧ Ev (fun m => notaryref36_ReadTerm.f m b (p : Int) 1) (x.f0, x.f1, x.f2, x.f3, x.f4, x.f5, tw, e) ∧ Fine x ∧ (e = 0 → ∃ k : Nat, tw = ((p + k : Nat) : Int) ∧ p + k ≤ b.length ∧ Ev (fun m => code_Term.f m x.f0 x.f1 x.f2 x.f3 x.f4 x.f5) (cut b p k, 0)) := by
  have hst : code_ReadTerm.start b (p : Int) = 0 := if_neg (by omega)
  have hlB := hB.len
  rcases term_cases hB 65 1 p (by omega) (by omega) (by omega) hp with ⟨e, he, ⟨x, q, t1⟩, t2⟩ | ⟨x, c, x1, x2, x3, x4, x5, x6, t1, t2⟩
  · refine ⟨zT, 0, e, Ev.congr (fun m => code_ReadTerm.f.eq_1 ..) ?_, t2, fine_zT, fun h => absurd h he⟩
    rw [hst]
    exact LEv.bd _ t1 (LEv.fin (by show (if e = 0 then _ else _) = _; rw [if_neg he]))
  · refine ⟨x, ((p + c : Nat) : Int), 0, Ev.congr (fun m => code_ReadTerm.f.eq_1 ..) ?_, t2, tame_fine x x2, fun _ => ⟨c, rfl, x5, ?_⟩⟩
    · rw [hst]
      exact LEv.bd _ t1 (LEv.fin rfl)
    · obtain ⟨b', e, hE⟩ := enc_term x 65 1 x2 x3 (by omega) (by omega) (by omega)
      obtain rfl := hE.good x1
      obtain rfl := hE.tbx rfl
      have := hE.len
      obtain ⟨b2, c1, c2, c3⟩ := hE.wr [] (by simp; omega)
      obtain rfl := c3 rfl
      rw [x6]
      have c4 : Ev (fun m => code_wr.term m ⟨x.f0, x.f1, x.f2, x.f3, x.f4, x.f5⟩ 1 ([], 0)) ([] ++ tb x, 0) := Ev.congr (fun m => by rw [LDv.etaT]; rfl) c2
      exact Ev.congr (fun m => code_Term.f.eq_1 ..) (LEv.bd _ c4 (LEv.fin (by simp)))
theorem etaD (x : D) : (⟨x.f0, x.f1, ⟨x.f2.f0, x.f2.f1, x.f2.f2, x.f2.f3, ⟨x.f2.f4.f0, x.f2.f4.f1, x.f2.f4.f2, x.f2.f4.f3, x.f2.f4.f4, x.f2.f4.f5⟩⟩, x.f3⟩ : D) = x := by
  obtain ⟨a, b, ⟨c, d, e, f, ⟨g, h, i, j, k, l⟩⟩, m⟩ := x
  rfl
/-- read as a derivation at a place that is there -/
theorem inD {b : List Int} (hB : Fit b) {p : Nat} (hp : p ≤ b.length) : ∃ (x : D) (tw e : Int), Ev (fun m => code_ReadDeriv.f m b (p : Int)) (x.f0, x.f1, x.f2.f0, x.f2.f1, x.f2.f2, x.f2.f3, x.f2.f4.f0, x.f2.f4.f1, x.f2.f4.f2, x.f2.f4.f3, x.f2.f4.f4, x.f2.f4.f5, x.f3, tw, e) ∧ Ev (fun m => notaryref36_ReadDeriv.f m b (p : Int) 1) (x.f0, x.f1, x.f2.f0, x.f2.f1, x.f2.f2, x.f2.f3, x.f2.f4.f0, x.f2.f4.f1, x.f2.f4.f2, x.f2.f4.f3, x.f2.f4.f4, x.f2.f4.f5, x.f3, tw, e) ∧ FineD x ∧ (e = 0 → ∃ k : Nat, tw = ((p + k : Nat) : Int) ∧ p + k ≤ b.length ∧ Ev (fun m => code_Deriv.f m x.f0 x.f1 x.f2.f0 x.f2.f1 x.f2.f2 x.f2.f3 x.f2.f4.f0 x.f2.f4.f1 x.f2.f4.f2 x.f2.f4.f3 x.f2.f4.f4 x.f2.f4.f5 x.f3) (cut b p k, 0)) := by
  have hst : code_ReadTerm.start b (p : Int) = 0 := if_neg (by omega)
  have hlB := hB.len
  rcases deriv_cases hB 65 1 p (by omega) (by omega) (by omega) hp with ⟨e, he, ⟨x, q, t1⟩, t2⟩ | ⟨x, c, x1, x2, x3, x4, x5, x6, t1, t2⟩
  · refine ⟨zD, 0, e, Ev.congr (fun m => code_ReadDeriv.f.eq_1 ..) ?_, Ev.congr (fun m => notaryref36_ReadDeriv.f.eq_1 ..) (LEv.bd _ t2 (LEv.fin rfl)), fine_zD, fun h => absurd h he⟩
    rw [hst]
    exact LEv.bd _ t1 (LEv.fin (by show (if e = 0 then _ else _) = _; rw [if_neg he]))
  · refine ⟨x, ((p + c : Nat) : Int), 0, Ev.congr (fun m => code_ReadDeriv.f.eq_1 ..) ?_, Ev.congr (fun m => notaryref36_ReadDeriv.f.eq_1 ..) (LEv.bd _ t2 (LEv.fin rfl)), tameD_fine x x2, fun _ => ⟨c, rfl, x5, ?_⟩⟩
    · rw [hst]
      exact LEv.bd _ t1 (LEv.fin rfl)
    · obtain ⟨b', e, hE⟩ := LDv.enc_deriv x 65 1 x2 (by omega) (by omega) (by omega)
      obtain rfl := hE.good x1
      obtain rfl := hE.dbx rfl
      have := hE.len
      obtain ⟨b2, c1, c2, c3⟩ := hE.wr [] (by simp; omega)
      obtain rfl := c3 rfl
      rw [x6]
      have c4 : Ev (fun m => code_dw.deriv m ⟨x.f0, x.f1, ⟨x.f2.f0, x.f2.f1, x.f2.f2, x.f2.f3, ⟨x.f2.f4.f0, x.f2.f4.f1, x.f2.f4.f2, x.f2.f4.f3, x.f2.f4.f4, x.f2.f4.f5⟩⟩, x.f3⟩ 1 ([], 0)) ([] ++ LDv.db x, 0) := Ev.congr (fun m => by rw [etaD]; rfl) c2
      exact Ev.congr (fun m => code_Deriv.f.eq_1 ..) (LEv.bd _ c4 (LEv.fin (by simp)))
/-- a piece of the bytes, as the machine cuts it -/
theorem cutS {A0 : Option Addr} {c0 : Nat} {l0 : List Int} {p k : Nat} (h : p + k ≤ l0.length) (hl : l0.length ≤ 100000) (hc : l0.length ≤ c0) : ∃ A1 c1, (∀ W : World, (Instr.slice 22 (.slice A0 l0.length c0) (some (.int .i64 (p : Int))) (some (.int .i64 ((p : Int) + (k : Int)))) none).run Try.prog W = .ok (.slice A1 (cut l0 p k).length c1) W) ∧ (cut l0 p k).length ≤ c1 ∧ ∀ W : World, Kd.C (Kd.int .u8) W A0 l0.length l0 → Kd.C (Kd.int .u8) W A1 (cut l0 p k).length (cut l0 p k) := by
  have he : (l0.take (p + k)).drop p = cut l0 p k := by
    unfold cut
    rw [List.drop_take, Nat.add_sub_cancel_left]
  have hlen : (cut l0 p k).length = k := by unfold cut; rw [List.length_take, List.length_drop]; omega
  obtain ⟨i0, hi0, _, hsz, _⟩ := info_parts info5
  have hcut := cut_mid (P := Try.prog) 22 5 .i64 .i64 Try.underlying22 hi0 1 hsz A0 l0.length c0 (p : Int) ((p + k : Nat) : Int) (by omega) (by omega) (by omega) hc
  rw [Int.toNat_natCast, Int.toNat_natCast, Nat.add_sub_cancel_left] at hcut
  refine ⟨_, _, fun W => by rw [hlen, ← Int.natCast_add]; exact hcut W, by rw [hlen]; omega, fun W hC => ?_⟩
  have hr := Kd.C_mid (lo := p) (hi := p + k) (c := c0) hC (by omega) h hc
  rw [he] at hr
  exact hr
/-- rows that lie in memory, and what is read of a term and of a derivation -/
structure Rows (w : World) (rs : List (Nat × Nat × Array Value)) (W : World) : Prop where
  bel : Below w.heap.size w W
  row : ∀ r ∈ rs, W.heap[r.1]? = some (.cells r.2.2 r.2.1 (0, 0))
theorem Rows.below {w W W' : World} {rs : List (Nat × Nat × Array Value)} (s : Rows w rs W) (hb : Below W.heap.size W W') : Rows w rs W' := ⟨below_step s.bel hb, fun r h => blk_below (s.row r h) hb⟩
theorem Rows.more {w W : World} {rs : List (Nat × Nat × Array Value)} (s : Rows w rs W) (t : Nat) (cs : Array Value) : Rows w ((W.heap.size, t, cs) :: rs) (W.alloc (.cells cs t)) :=
  ⟨below_alloc s.bel _, fun r h => by
    rcases List.mem_cons.1 h with rfl | h
    · exact blk_new _ _
    · exact blk_alloc (s.row r h) _⟩
theorem Rows.here {w W : World} {rs : List (Nat × Nat × Array Value)} (s : Rows w rs W) {g t : Nat} {cs : Array Value} (h : (g, t, cs) ∈ rs) : W.heap[g]? = some (.cells cs t (0, 0)) := s.row _ h
structure GT (W : World) (x : T) (A : Option Addr) (c : Nat) : Prop where
  le : x.f3.length ≤ c
  c : Kd.C k25 W A x.f3.length x.f3
structure GD (W : World) (x : D) (A1 : Option Addr) (c1 : Nat) (A4 : Option Addr) (c4 : Nat) (A5 : Option Addr) (c5 : Nat) (A9 : Option Addr) (c9 : Nat) (A12 : Option Addr) (c12 : Nat) : Prop where
  l1 : x.f1.length ≤ c1
  g1 : Kd.C (Kd.int .i64) W A1 x.f1.length x.f1
  l4 : x.f2.f2.length ≤ c4
  g4 : Kd.C (Kd.int .i64) W A4 x.f2.f2.length x.f2.f2
  l5 : x.f2.f3.length ≤ c5
  g5 : Kd.C (Kd.int .i64) W A5 x.f2.f3.length x.f2.f3
  l9 : x.f2.f4.f3.length ≤ c9
  g9 : Kd.C k25 W A9 x.f2.f4.f3.length x.f2.f4.f3
  l12 : x.f3.length ≤ c12
  g12 : Kd.C k42 W A12 x.f3.length x.f3
theorem GT.below {W W' : World} {x : T} {A c} (h : GT W x A c) (hb : Below W.heap.size W W') : GT W' x A c := ⟨h.le, Kd.C_below h.c hb⟩
theorem GD.below {W W' : World} {x : D} {A1 c1 A4 c4 A5 c5 A9 c9 A12 c12} (h : GD W x A1 c1 A4 c4 A5 c5 A9 c9 A12 c12) (hb : Below W.heap.size W W') : GD W' x A1 c1 A4 c4 A5 c5 A9 c9 A12 c12 := ⟨h.l1, Kd.C_below h.g1 hb, h.l4, Kd.C_below h.g4 hb, h.l5, Kd.C_below h.g5 hb, h.l9, Kd.C_below h.g9 hb, h.l12, Kd.C_below h.g12 hb⟩
set_option maxHeartbeats 16000000 in
set_option maxRecDepth 100000 in
theorem CodeReads (w : World) (A0 : Option Addr) (c0 : Nat) (l0 : List Int) (hc0 : l0.length ≤ c0) (hC0 : Kd.C (Kd.int .u8) w A0 l0.length l0) (hw0 : l0.length ≤ maxLen ∧ ∀ x ∈ l0, (Lit.int .u8 x).wf = true) (p : Int) (hp : (Lit.int .i64 p).wf = true) :
    Calls Try.prog 5 #[.slice A0 l0.length c0, .int .i64 p] w fun e w' => e = .returned (.bool true) ∧ Below w.heap.size w w' := by
  have hu := Try.underlying25
  have hu2 := Try.underlying42
  have HC := Aside0.mk hC0
  have HL := Aside0.mk hc0
  have hB := byt_u8 hw0.2
  obtain ⟨ka, hka⟩ := Ev.rounds awake_ev
  have HA := Aside0.mk hka
  clear hC0 hc0 hw0 hp hka
  by_cases h2 : (l0.length : Int) > 2000
  · have d2 : decide (2000 < (l0.length : Int)) = true := decide_eq_true h2
    clear h2 hB
    go_enter Try.func5, Try.ntmps5
    go_wp2_with (go_at_call 9; (with_reducible refine (notarylaw36_awake.calls ka true _ HA.out).mono ?_); rintro y wz ⟨rfl, hz⟩; (have HZ := Aside0.mk hz); clear hz)
    go_ret
    exact ⟨rfl, HZ.out⟩
  have d2 : decide (2000 < (l0.length : Int)) = false := decide_eq_false h2
  have HS : Aside0 (l0.length ≤ 2000) := ⟨by omega⟩
  have HF : Aside0 (Fit l0) := ⟨hB, by omega⟩
  clear h2 hB
  by_cases ho : p < 0 ∨ (l0.length : Int) < p
  · obtain ⟨o1, o2⟩ := outside l0 p HS.out ho
    obtain ⟨k1, h1⟩ := Ev.rounds o1
    obtain ⟨k2, h2⟩ := Ev.rounds o2
    obtain ⟨k3, h3⟩ := Ev.rounds (placed_self zT fine_zT)
    obtain ⟨k4, h4⟩ := Ev.rounds zsame
    have H1 := Aside0.mk h1
    have H2 := Aside0.mk h2
    have H3 := Aside0.mk h3
    have H4 := Aside0.mk h4
    have ho2 : decide (p < 0) = true ∨ (decide (p < 0) = false ∧ decide ((l0.length : Int) < p) = true) := by
      by_cases h : p < 0
      · exact .inl (decide_eq_true h)
      · exact .inr ⟨decide_eq_false h, decide_eq_true (ho.resolve_left h)⟩
    clear o1 o2 h1 h2 h3 h4 ho
    go_enter Try.func5, Try.ntmps5
    rcases ho2 with d3 | ⟨d3, d4⟩
    all_goals go_upto_region 6 with (first | (go_at_call 18; (with_reducible refine (code_ReadDeriv.calls k2 A0 c0 l0 p 0 [] 0 false [] [] 0 0 ⟨#[]⟩ [] 0 0 [] 0 13 _ (Kd.C_below HC.out S1.out.bel) HL.out H2.out).mono ?_); rintro y w2 ⟨v1, v4, v5, v9, v12, rfl, hv1, hv4, hv5, hv9, hv12, hz⟩; (obtain ⟨D1, e1, rfl, m1, f1⟩ := hv1); (obtain ⟨D4, e4, rfl, m4, f4⟩ := hv4); (obtain ⟨D5, e5, rfl, m5, f5⟩ := hv5); (obtain ⟨D9, e9, rfl, m9, f9⟩ := hv9); (obtain ⟨D12, e12, rfl, m12, f12⟩ := hv12); (have HD2 : Aside0 (GD w2 zD D1 e1 D4 e4 D5 e5 D9 e9 D12 e12) := ⟨⟨m1, Kd.F_now f1, m4, Kd.F_now f4, m5, Kd.F_now f5, m9, Kd.F_now f9, m12, Kd.F_now f12⟩⟩); (obtain ⟨g2, hg2⟩ : ∃ g, g = w2.heap.size := ⟨_, rfl⟩); (have S2 := Aside0.mk ((S1.out.below hz).more 42 #[.int .i64 0, .slice D1 0 e1, .int .i64 0, .bool false, .slice D4 0 e4, .slice D5 0 e5, .int .i64 0, .int .i64 0, .string (⟨#[]⟩ : ByteArray), .slice D9 0 e9, .int .i64 0, .int .i64 0, .slice D12 0 e12])); (have V2 := Aside0.mk ((V1.out.below hz).below (below_alloc (Below.refl _ _) (.cells #[.int .i64 0, .slice D1 0 e1, .int .i64 0, .bool false, .slice D4 0 e4, .slice D5 0 e5, .int .i64 0, .int .i64 0, .string (⟨#[]⟩ : ByteArray), .slice D9 0 e9, .int .i64 0, .int .i64 0, .slice D12 0 e12] 42)))); (have U2 := Aside0.mk (HD2.out.below (below_alloc (Below.refl _ _) (.cells #[.int .i64 0, .slice D1 0 e1, .int .i64 0, .bool false, .slice D4 0 e4, .slice D5 0 e5, .int .i64 0, .int .i64 0, .string (⟨#[]⟩ : ByteArray), .slice D9 0 e9, .int .i64 0, .int .i64 0, .slice D12 0 e12] 42)))); rw [← hg2] at S2; (have HG2 := Aside0.mk hg2); clear hz hg2 m1 f1 m4 f4 m5 f5 m9 f9 m12 f12) | (go_at_call 13; (with_reducible refine (code_ReadTerm.calls k1 A0 c0 l0 p 0 0 ⟨#[]⟩ [] 0 0 0 13 _ HC.out HL.out H1.out).mono ?_); rintro y w1 ⟨v, rfl, hv, hz⟩; obtain ⟨A5, c5, rfl, m5, f5⟩ := hv; (have HT1 : Aside0 (GT w1 zT A5 c5) := ⟨⟨m5, Kd.F_now f5⟩⟩); (obtain ⟨g1, hg1⟩ : ∃ g, g = w1.heap.size := ⟨_, rfl⟩); (have S1 := Aside0.mk ((Rows.mk (rs := []) hz (fun r h => by cases h)).more 25 #[.int .i64 0, .int .i64 0, .string (⟨#[]⟩ : ByteArray), .slice A5 0 c5, .int .i64 0, .int .i64 0])); (have V1 := Aside0.mk (HT1.out.below (below_alloc (Below.refl _ _) (.cells #[.int .i64 0, .int .i64 0, .string (⟨#[]⟩ : ByteArray), .slice A5 0 c5, .int .i64 0, .int .i64 0] 25)))); rw [← hg1] at S1; (have HG1 := Aside0.mk hg1); clear hz hg1 m5 f5))
    all_goals rw [← HG2.out, ← HG1.out]
    all_goals go_wp2_with (first | (go_at_call 20; (refine (notaryref36_Same.calls k4 0 D1 e1 [] 0 false D4 e4 [] D5 e5 [] 0 0 ⟨#[]⟩ D9 e9 [] 0 0 D12 e12 [] 0 none 0 [] 0 false none 0 [] none 0 [] 0 0 ⟨#[]⟩ none 0 [] 0 0 none 0 [] true _ U5.out.g1 U5.out.l1 U5.out.g4 U5.out.l4 U5.out.g5 U5.out.l5 U5.out.g9 U5.out.l9 U5.out.g12 U5.out.l12 (Kd.C_nil _ _) (Nat.le_refl _) (Kd.C_nil _ _) (Nat.le_refl _) (Kd.C_nil _ _) (Nat.le_refl _) (Kd.C_nil _ _) (Nat.le_refl _) (Kd.C_nil _ _) (Nat.le_refl _) H4.out).mono ?_); rintro y w6 ⟨rfl, hz⟩; (have HZ := Aside0.mk (S5.out.below hz).bel); clear hz) | ((try (refine gate_guard (by rfl) ?_; dsimp only)); refine wpList_load_row rfl 42 (.tmp 8) rfl g2 rfl 42 _ (0, 0) _ (S5.out.here List.mem_cons_self) Try.underlying42 rfl (by kernel_rfl) ?_) | (go_at_call 14; (refine (notaryref06_Placed.calls k3 0 0 ⟨#[]⟩ A5 c5 [] 0 0 0 0 ⟨#[]⟩ none 0 [] 0 0 true _ V2.out.c V2.out.le (Kd.C_nil _ _) (Nat.le_refl _) H3.out).mono ?_); rintro y w5 ⟨rfl, hz⟩; (have S5 := Aside0.mk (S2.out.below hz)); (have U5 := Aside0.mk (U2.out.below hz)); clear hz) | ((try (refine gate_guard (by rfl) ?_; dsimp only)); refine wpList_load_row rfl 25 (.tmp 5) rfl g1 rfl 25 _ (0, 0) _ (S2.out.here (List.mem_cons_of_mem _ List.mem_cons_self)) Try.underlying25 rfl (by kernel_rfl) ?_))
    all_goals go_ret
    all_goals exact ⟨rfl, HZ.out⟩
  obtain ⟨n, rfl⟩ : ∃ n : Nat, p = (n : Int) := ⟨p.toNat, by omega⟩
  have hn : n ≤ l0.length := by omega
  obtain ⟨x, tw, e, x1, x2, x3, x4⟩ := inT HF.out hn
  obtain ⟨d, en, f, y1, y2, y3, y4⟩ := inD HF.out hn
  obtain ⟨k1, h1⟩ := Ev.rounds x1
  obtain ⟨k2, h2⟩ := Ev.rounds y1
  obtain ⟨k3, h3⟩ := Ev.rounds x2
  obtain ⟨k4, h4⟩ := Ev.rounds y2
  obtain ⟨k5, h5⟩ := Ev.rounds (placed_self x x3)
  obtain ⟨k6, h6⟩ := Ev.rounds (LDv.dsame_self d y3)
  have H1 := Aside0.mk h1
  have H2 := Aside0.mk h2
  have H3 := Aside0.mk h3
  have H4 := Aside0.mk h4
  have H5 := Aside0.mk h5
  have H6 := Aside0.mk h6
  have X4 := Aside0.mk x4
  have Y4 := Aside0.mk y4
  have d3 : decide ((n : Int) < 0) = false := decide_eq_false (by omega)
  have d4 : decide ((l0.length : Int) < (n : Int)) = false := decide_eq_false (by omega)
  have d4n : decide (l0.length < n) = false := decide_eq_false (by omega)
  have d5 : (e != e) = false := by simp
  have d6 : (tw != tw) = false := by simp
  have d7 : (f != f) = false := by simp
  have d8 : (en != en) = false := by simp
  clear x1 x2 x3 x4 y1 y2 y3 y4 h1 h2 h3 h4 h5 h6 ho hn
  go_enter Try.func5, Try.ntmps5
  go_upto_region 9 with (first | (go_at_call 22; (with_reducible refine (notaryref36_ReadDeriv.calls k4 A0 c0 l0 (n : Int) 1 d.f0 d.f1 d.f2.f0 d.f2.f1 d.f2.f2 d.f2.f3 d.f2.f4.f0 d.f2.f4.f1 d.f2.f4.f2 d.f2.f4.f3 d.f2.f4.f4 d.f2.f4.f5 d.f3 en f _ (Kd.C_below HC.out S3.out.bel) HL.out H4.out).mono ?_); rintro y w4 ⟨v1, v4, v5, v9, v12, rfl, hv1, hv4, hv5, hv9, hv12, hz⟩; (obtain ⟨B1, n_1, rfl, m1, f1⟩ := hv1); (obtain ⟨B4, n_4, rfl, m4, f4⟩ := hv4); (obtain ⟨B5, n_5, rfl, m5, f5⟩ := hv5); (obtain ⟨B9, n_9, rfl, m9, f9⟩ := hv9); (obtain ⟨B12, n_12, rfl, m12, f12⟩ := hv12); (have HD4 : Aside0 (GD w4 d B1 n_1 B4 n_4 B5 n_5 B9 n_9 B12 n_12) := ⟨⟨m1, Kd.F_now f1, m4, Kd.F_now f4, m5, Kd.F_now f5, m9, Kd.F_now f9, m12, Kd.F_now f12⟩⟩); (obtain ⟨g4, hg4⟩ : ∃ g, g = w4.heap.size := ⟨_, rfl⟩); (have S4 := Aside0.mk ((S3.out.below hz).more 42 #[.int .i64 d.f0, .slice B1 d.f1.length n_1, .int .i64 d.f2.f0, .bool d.f2.f1, .slice B4 d.f2.f2.length n_4, .slice B5 d.f2.f3.length n_5, .int .i64 d.f2.f4.f0, .int .i64 d.f2.f4.f1, .string d.f2.f4.f2, .slice B9 d.f2.f4.f3.length n_9, .int .i64 d.f2.f4.f4, .int .i64 d.f2.f4.f5, .slice B12 d.f3.length n_12])); (have V4 := Aside0.mk ((V3.out.below hz).below (below_alloc (Below.refl _ _) (.cells #[.int .i64 d.f0, .slice B1 d.f1.length n_1, .int .i64 d.f2.f0, .bool d.f2.f1, .slice B4 d.f2.f2.length n_4, .slice B5 d.f2.f3.length n_5, .int .i64 d.f2.f4.f0, .int .i64 d.f2.f4.f1, .string d.f2.f4.f2, .slice B9 d.f2.f4.f3.length n_9, .int .i64 d.f2.f4.f4, .int .i64 d.f2.f4.f5, .slice B12 d.f3.length n_12] 42)))); (have Y4a := Aside0.mk ((U3.out.below hz).below (below_alloc (Below.refl _ _) (.cells #[.int .i64 d.f0, .slice B1 d.f1.length n_1, .int .i64 d.f2.f0, .bool d.f2.f1, .slice B4 d.f2.f2.length n_4, .slice B5 d.f2.f3.length n_5, .int .i64 d.f2.f4.f0, .int .i64 d.f2.f4.f1, .string d.f2.f4.f2, .slice B9 d.f2.f4.f3.length n_9, .int .i64 d.f2.f4.f4, .int .i64 d.f2.f4.f5, .slice B12 d.f3.length n_12] 42)))); (have Q4 := Aside0.mk ((Q3.out.below hz).below (below_alloc (Below.refl _ _) (.cells #[.int .i64 d.f0, .slice B1 d.f1.length n_1, .int .i64 d.f2.f0, .bool d.f2.f1, .slice B4 d.f2.f2.length n_4, .slice B5 d.f2.f3.length n_5, .int .i64 d.f2.f4.f0, .int .i64 d.f2.f4.f1, .string d.f2.f4.f2, .slice B9 d.f2.f4.f3.length n_9, .int .i64 d.f2.f4.f4, .int .i64 d.f2.f4.f5, .slice B12 d.f3.length n_12] 42)))); (have U4 := Aside0.mk (HD4.out.below (below_alloc (Below.refl _ _) (.cells #[.int .i64 d.f0, .slice B1 d.f1.length n_1, .int .i64 d.f2.f0, .bool d.f2.f1, .slice B4 d.f2.f2.length n_4, .slice B5 d.f2.f3.length n_5, .int .i64 d.f2.f4.f0, .int .i64 d.f2.f4.f1, .string d.f2.f4.f2, .slice B9 d.f2.f4.f3.length n_9, .int .i64 d.f2.f4.f4, .int .i64 d.f2.f4.f5, .slice B12 d.f3.length n_12] 42)))); rw [← hg4] at S4; (have HG4 := Aside0.mk hg4); clear hz hg4 m1 f1 m4 f4 m5 f5 m9 f9 m12 f12) | (go_at_call 21; (with_reducible refine (notaryref36_ReadTerm.calls k3 A0 c0 l0 (n : Int) 1 x.f0 x.f1 x.f2 x.f3 x.f4 x.f5 tw e _ (Kd.C_below HC.out S2.out.bel) HL.out H3.out).mono ?_); rintro y w3 ⟨v, rfl, hv, hz⟩; obtain ⟨A6, c6, rfl⟩ := Kd.R_slice hv; (have HT3 : Aside0 (GT w3 x A6 c6) := ⟨⟨(Kd.R_reads' hv).2.1, (Kd.R_reads' hv).2.2⟩⟩); (obtain ⟨g3, hg3⟩ : ∃ g, g = w3.heap.size := ⟨_, rfl⟩); (have S3 := Aside0.mk ((S2.out.below hz).more 25 #[.int .i64 x.f0, .int .i64 x.f1, .string x.f2, .slice A6 x.f3.length c6, .int .i64 x.f4, .int .i64 x.f5])); (have V3 := Aside0.mk ((V2.out.below hz).below (below_alloc (Below.refl _ _) (.cells #[.int .i64 x.f0, .int .i64 x.f1, .string x.f2, .slice A6 x.f3.length c6, .int .i64 x.f4, .int .i64 x.f5] 25)))); (have U3 := Aside0.mk ((U2.out.below hz).below (below_alloc (Below.refl _ _) (.cells #[.int .i64 x.f0, .int .i64 x.f1, .string x.f2, .slice A6 x.f3.length c6, .int .i64 x.f4, .int .i64 x.f5] 25)))); (have Q3 := Aside0.mk (HT3.out.below (below_alloc (Below.refl _ _) (.cells #[.int .i64 x.f0, .int .i64 x.f1, .string x.f2, .slice A6 x.f3.length c6, .int .i64 x.f4, .int .i64 x.f5] 25)))); rw [← hg3] at S3; (have HG3 := Aside0.mk hg3); clear hz hg3 hv) | (go_at_call 18; (with_reducible refine (code_ReadDeriv.calls k2 A0 c0 l0 (n : Int) d.f0 d.f1 d.f2.f0 d.f2.f1 d.f2.f2 d.f2.f3 d.f2.f4.f0 d.f2.f4.f1 d.f2.f4.f2 d.f2.f4.f3 d.f2.f4.f4 d.f2.f4.f5 d.f3 en f _ (Kd.C_below HC.out S1.out.bel) HL.out H2.out).mono ?_); rintro y w2 ⟨v1, v4, v5, v9, v12, rfl, hv1, hv4, hv5, hv9, hv12, hz⟩; (obtain ⟨D1, e1, rfl, m1, f1⟩ := hv1); (obtain ⟨D4, e4, rfl, m4, f4⟩ := hv4); (obtain ⟨D5, e5, rfl, m5, f5⟩ := hv5); (obtain ⟨D9, e9, rfl, m9, f9⟩ := hv9); (obtain ⟨D12, e12, rfl, m12, f12⟩ := hv12); (have HD2 : Aside0 (GD w2 d D1 e1 D4 e4 D5 e5 D9 e9 D12 e12) := ⟨⟨m1, Kd.F_now f1, m4, Kd.F_now f4, m5, Kd.F_now f5, m9, Kd.F_now f9, m12, Kd.F_now f12⟩⟩); (obtain ⟨g2, hg2⟩ : ∃ g, g = w2.heap.size := ⟨_, rfl⟩); (have S2 := Aside0.mk ((S1.out.below hz).more 42 #[.int .i64 d.f0, .slice D1 d.f1.length e1, .int .i64 d.f2.f0, .bool d.f2.f1, .slice D4 d.f2.f2.length e4, .slice D5 d.f2.f3.length e5, .int .i64 d.f2.f4.f0, .int .i64 d.f2.f4.f1, .string d.f2.f4.f2, .slice D9 d.f2.f4.f3.length e9, .int .i64 d.f2.f4.f4, .int .i64 d.f2.f4.f5, .slice D12 d.f3.length e12])); (have V2 := Aside0.mk ((V1.out.below hz).below (below_alloc (Below.refl _ _) (.cells #[.int .i64 d.f0, .slice D1 d.f1.length e1, .int .i64 d.f2.f0, .bool d.f2.f1, .slice D4 d.f2.f2.length e4, .slice D5 d.f2.f3.length e5, .int .i64 d.f2.f4.f0, .int .i64 d.f2.f4.f1, .string d.f2.f4.f2, .slice D9 d.f2.f4.f3.length e9, .int .i64 d.f2.f4.f4, .int .i64 d.f2.f4.f5, .slice D12 d.f3.length e12] 42)))); (have U2 := Aside0.mk (HD2.out.below (below_alloc (Below.refl _ _) (.cells #[.int .i64 d.f0, .slice D1 d.f1.length e1, .int .i64 d.f2.f0, .bool d.f2.f1, .slice D4 d.f2.f2.length e4, .slice D5 d.f2.f3.length e5, .int .i64 d.f2.f4.f0, .int .i64 d.f2.f4.f1, .string d.f2.f4.f2, .slice D9 d.f2.f4.f3.length e9, .int .i64 d.f2.f4.f4, .int .i64 d.f2.f4.f5, .slice D12 d.f3.length e12] 42)))); rw [← hg2] at S2; (have HG2 := Aside0.mk hg2); clear hz hg2 m1 f1 m4 f4 m5 f5 m9 f9 m12 f12) | (go_at_call 13; (with_reducible refine (code_ReadTerm.calls k1 A0 c0 l0 (n : Int) x.f0 x.f1 x.f2 x.f3 x.f4 x.f5 tw e _ HC.out HL.out H1.out).mono ?_); rintro y w1 ⟨v, rfl, hv, hz⟩; obtain ⟨A5, c5, rfl, m5, f5⟩ := hv; (have HT1 : Aside0 (GT w1 x A5 c5) := ⟨⟨m5, Kd.F_now f5⟩⟩); (obtain ⟨g1, hg1⟩ : ∃ g, g = w1.heap.size := ⟨_, rfl⟩); (have S1 := Aside0.mk ((Rows.mk (rs := []) hz (fun r h => by cases h)).more 25 #[.int .i64 x.f0, .int .i64 x.f1, .string x.f2, .slice A5 x.f3.length c5, .int .i64 x.f4, .int .i64 x.f5])); (have V1 := Aside0.mk (HT1.out.below (below_alloc (Below.refl _ _) (.cells #[.int .i64 x.f0, .int .i64 x.f1, .string x.f2, .slice A5 x.f3.length c5, .int .i64 x.f4, .int .i64 x.f5] 25)))); rw [← hg1] at S1; (have HG1 := Aside0.mk hg1); clear hz hg1 m5 f5))
  rw [← HG4.out, ← HG3.out, ← HG2.out, ← HG1.out]
  go_upto_region 11 with (first | (go_at_call 19; (with_reducible refine (notaryref35_Same.calls k6 d.f0 D1 e1 d.f1 d.f2.f0 d.f2.f1 D4 e4 d.f2.f2 D5 e5 d.f2.f3 d.f2.f4.f0 d.f2.f4.f1 d.f2.f4.f2 D9 e9 d.f2.f4.f3 d.f2.f4.f4 d.f2.f4.f5 D12 e12 d.f3 d.f0 B1 n_1 d.f1 d.f2.f0 d.f2.f1 B4 n_4 d.f2.f2 B5 n_5 d.f2.f3 d.f2.f4.f0 d.f2.f4.f1 d.f2.f4.f2 B9 n_9 d.f2.f4.f3 d.f2.f4.f4 d.f2.f4.f5 B12 n_12 d.f3 true _ Y5.out.g1 Y5.out.l1 Y5.out.g4 Y5.out.l4 Y5.out.g5 Y5.out.l5 Y5.out.g9 Y5.out.l9 Y5.out.g12 Y5.out.l12 U5.out.g1 U5.out.l1 U5.out.g4 U5.out.l4 U5.out.g5 U5.out.l5 U5.out.g9 U5.out.l9 U5.out.g12 U5.out.l12 H6.out).mono ?_); rintro y w6 ⟨rfl, hz⟩; (have S6 := Aside0.mk (S5.out.below hz)); (have V6 := Aside0.mk (V5.out.below hz)); (have U6 := Aside0.mk (Y5.out.below hz)); clear hz) | ((try (refine gate_guard (by rfl) ?_; dsimp only)); refine wpList_load_row rfl 42 (.tmp 8) rfl g2 rfl 42 _ (0, 0) _ (S5.out.here (List.mem_cons_of_mem _ (List.mem_cons_of_mem _ List.mem_cons_self))) Try.underlying42 rfl (by kernel_rfl) ?_) | ((try (refine gate_guard (by rfl) ?_; dsimp only)); refine wpList_load_row rfl 42 (.tmp 14) rfl g4 rfl 42 _ (0, 0) _ (S5.out.here List.mem_cons_self) Try.underlying42 rfl (by kernel_rfl) ?_) | (go_at_call 14; (with_reducible refine (notaryref06_Placed.calls k5 x.f0 x.f1 x.f2 A5 c5 x.f3 x.f4 x.f5 x.f0 x.f1 x.f2 A6 c6 x.f3 x.f4 x.f5 true _ V4.out.c V4.out.le Q4.out.c Q4.out.le H5.out).mono ?_); rintro y w5 ⟨rfl, hz⟩; (have S5 := Aside0.mk (S4.out.below hz)); (have V5 := Aside0.mk (V4.out.below hz)); (have Y5 := Aside0.mk (Y4a.out.below hz)); (have U5 := Aside0.mk (U4.out.below hz)); clear hz) | ((try (refine gate_guard (by rfl) ?_; dsimp only)); refine wpList_load_row rfl 25 (.tmp 5) rfl g1 rfl 25 _ (0, 0) _ (S4.out.here (List.mem_cons_of_mem _ (List.mem_cons_of_mem _ (List.mem_cons_of_mem _ List.mem_cons_self)))) Try.underlying25 rfl (by kernel_rfl) ?_) | ((try (refine gate_guard (by rfl) ?_; dsimp only)); refine wpList_load_row rfl 25 (.tmp 11) rfl g3 rfl 25 _ (0, 0) _ (S4.out.here (List.mem_cons_of_mem _ List.mem_cons_self)) Try.underlying25 rfl (by kernel_rfl) ?_))
  clear S2 S3 S4 S5 V2 V3 V4 V5 U2 U3 U4 U5 Y4a Y5 Q3 Q4 HD4 HT3 HG1 HG2 HG3 HG4
  by_cases he : e = 0
  · obtain ⟨k, rfl, hk, ht⟩ := X4.out he
    subst he
    obtain ⟨kt, hkt⟩ := Ev.rounds ht
    obtain ⟨ks, hks⟩ := Ev.rounds (same_true (cut l0 n k) (by unfold cut; rw [List.length_take, List.length_drop]; have := HS.out; omega))
    obtain ⟨A7, c7, hcut, hc7, hC7⟩ := cutS (A0 := A0) hk (by have := HS.out; omega) HL.out
    have HKT := Aside0.mk hkt
    have HKS := Aside0.mk hks
    have HC7 := Aside0.mk hC7
    have HL7 := Aside0.mk hc7
    generalize cut l0 n k = cu at *
    clear ht hkt hks hC7 hc7 hk X4
    go_upto_region 15 with (first | (go_at_call 12; (with_reducible refine (notaryref01_Same.calls ks Ab cb cu A7 c7 cu true _ (Kd.F_now HVB.out) HLB.out (HC7.out _ (Kd.C_below HC.out S7.out.bel)) HL7.out HKS.out).mono ?_); rintro y w8 ⟨rfl, hz⟩; obtain ⟨m8, rfl⟩ := hz.out; (have S8 := Aside0.mk (S7.out.below (pw_below_drewN (Below.refl _ _) m8))); (have U8 := Aside0.mk (U7.out.below (pw_below_drewN (Below.refl _ _) m8))); clear hz) | (go_at_call 10; (with_reducible refine (code_Term.calls kt x.f0 x.f1 x.f2 A5 c5 x.f3 x.f4 x.f5 cu 0 _ V6.out.c V6.out.le HKT.out).mono ?_); rintro y w7 ⟨v, rfl, hv, hz⟩; obtain ⟨Ab, cb, rfl, lb, fb⟩ := hv; (have HVB := Aside0.mk fb); (have HLB := Aside0.mk lb); (have S7 := Aside0.mk (S6.out.below hz)); (have U7 := Aside0.mk (U6.out.below hz)); clear hz lb fb) | ((try (refine gate_guard (by rfl) ?_; dsimp only)); refine wpList_load_row rfl 25 (.tmp 5) rfl g1 rfl 25 _ (0, 0) _ (S6.out.here (List.mem_cons_of_mem _ (List.mem_cons_of_mem _ (List.mem_cons_of_mem _ List.mem_cons_self)))) Try.underlying25 rfl (by kernel_rfl) ?_))
    obtain ⟨W8, hW8⟩ : ∃ W : World, W = w7.drewN m8 := ⟨_, rfl⟩
    rw [← hW8] at S8 U8
    rw [← hW8]
    clear hW8 hcut
    by_cases hf : f = 0
    · obtain ⟨j, rfl, hj, ht⟩ := Y4.out hf
      subst hf
      obtain ⟨kt', hkt⟩ := Ev.rounds ht
      obtain ⟨ks', hks⟩ := Ev.rounds (same_true (cut l0 n j) (by unfold cut; rw [List.length_take, List.length_drop]; have := HS.out; omega))
      obtain ⟨A8, c8, hcut, hc8, hC8⟩ := cutS (A0 := A0) hj (by have := HS.out; omega) HL.out
      have HKT' := Aside0.mk hkt
      have HKS' := Aside0.mk hks
      have HC8 := Aside0.mk hC8
      have HL8 := Aside0.mk hc8
      generalize cut l0 n j = cv at *
      clear ht hkt hks hC8 hc8 hj Y4
      go_wp2_with (first | (go_at_call 9; (with_reducible refine (notarylaw36_awake.calls ka true _ HA.out).mono ?_); rintro y wz ⟨rfl, hz⟩; (have HZ := Aside0.mk (SB.out.below hz).bel); clear hz) | (go_at_call 12; (with_reducible refine (notaryref01_Same.calls ks' Ad cd cv A8 c8 cv true _ (Kd.F_now HVD.out) HLD.out (HC8.out _ (Kd.C_below HC.out SA.out.bel)) HL8.out HKS'.out).mono ?_); rintro y w10 ⟨rfl, hz⟩; obtain ⟨m10, rfl⟩ := hz.out; (have SB := Aside0.mk (SA.out.below (pw_below_drewN (Below.refl _ _) m10))); clear hz) | (go_at_call 16; (with_reducible refine (code_Deriv.calls kt' d.f0 D1 e1 d.f1 d.f2.f0 d.f2.f1 D4 e4 d.f2.f2 D5 e5 d.f2.f3 d.f2.f4.f0 d.f2.f4.f1 d.f2.f4.f2 D9 e9 d.f2.f4.f3 d.f2.f4.f4 d.f2.f4.f5 D12 e12 d.f3 cv 0 _ U8.out.g1 U8.out.l1 U8.out.g4 U8.out.l4 U8.out.g5 U8.out.l5 U8.out.g9 U8.out.l9 U8.out.g12 U8.out.l12 HKT'.out).mono ?_); rintro y w9 ⟨v, rfl, hv, hz⟩; obtain ⟨Ad, cd, rfl, lb, fb⟩ := hv; (have HVD := Aside0.mk fb); (have HLD := Aside0.mk lb); (have SA := Aside0.mk (S8.out.below hz)); clear hz lb fb) | ((try (refine gate_guard (by rfl) ?_; dsimp only)); refine wpList_load_row rfl 42 (.tmp 8) rfl g2 rfl 42 _ (0, 0) _ (S8.out.here (List.mem_cons_of_mem _ (List.mem_cons_of_mem _ List.mem_cons_self))) Try.underlying42 rfl (by kernel_rfl) ?_))
      go_ret
      exact ⟨rfl, HZ.out⟩
    · have d10 : (f == 0) = false := beq_eq_false_iff_ne.mpr hf
      clear hf Y4
      go_wp2_with (go_at_call 9; (with_reducible refine (notarylaw36_awake.calls ka true _ HA.out).mono ?_); rintro y wz ⟨rfl, hz⟩; (have HZ := Aside0.mk (S8.out.below hz).bel); clear hz)
      go_ret
      exact ⟨rfl, HZ.out⟩
  · have d9 : (e == 0) = false := beq_eq_false_iff_ne.mpr he
    clear he X4
    go_upto_region 15 with (fail)
    by_cases hf : f = 0
    · obtain ⟨j, rfl, hj, ht⟩ := Y4.out hf
      subst hf
      obtain ⟨kt', hkt⟩ := Ev.rounds ht
      obtain ⟨ks', hks⟩ := Ev.rounds (same_true (cut l0 n j) (by unfold cut; rw [List.length_take, List.length_drop]; have := HS.out; omega))
      obtain ⟨A8, c8, hcut, hc8, hC8⟩ := cutS (A0 := A0) hj (by have := HS.out; omega) HL.out
      have HKT' := Aside0.mk hkt
      have HKS' := Aside0.mk hks
      have HC8 := Aside0.mk hC8
      have HL8 := Aside0.mk hc8
      generalize cut l0 n j = cv at *
      clear ht hkt hks hC8 hc8 hj Y4
      go_wp2_with (first | (go_at_call 9; (with_reducible refine (notarylaw36_awake.calls ka true _ HA.out).mono ?_); rintro y wz ⟨rfl, hz⟩; (have HZ := Aside0.mk (SB.out.below hz).bel); clear hz) | (go_at_call 12; (with_reducible refine (notaryref01_Same.calls ks' Ad cd cv A8 c8 cv true _ (Kd.F_now HVD.out) HLD.out (HC8.out _ (Kd.C_below HC.out SA.out.bel)) HL8.out HKS'.out).mono ?_); rintro y w10 ⟨rfl, hz⟩; obtain ⟨m10, rfl⟩ := hz.out; (have SB := Aside0.mk (SA.out.below (pw_below_drewN (Below.refl _ _) m10))); clear hz) | (go_at_call 16; (with_reducible refine (code_Deriv.calls kt' d.f0 D1 e1 d.f1 d.f2.f0 d.f2.f1 D4 e4 d.f2.f2 D5 e5 d.f2.f3 d.f2.f4.f0 d.f2.f4.f1 d.f2.f4.f2 D9 e9 d.f2.f4.f3 d.f2.f4.f4 d.f2.f4.f5 D12 e12 d.f3 cv 0 _ U6.out.g1 U6.out.l1 U6.out.g4 U6.out.l4 U6.out.g5 U6.out.l5 U6.out.g9 U6.out.l9 U6.out.g12 U6.out.l12 HKT'.out).mono ?_); rintro y w9 ⟨v, rfl, hv, hz⟩; obtain ⟨Ad, cd, rfl, lb, fb⟩ := hv; (have HVD := Aside0.mk fb); (have HLD := Aside0.mk lb); (have SA := Aside0.mk (S6.out.below hz)); clear hz lb fb) | ((try (refine gate_guard (by rfl) ?_; dsimp only)); refine wpList_load_row rfl 42 (.tmp 8) rfl g2 rfl 42 _ (0, 0) _ (S6.out.here (List.mem_cons_of_mem _ (List.mem_cons_of_mem _ List.mem_cons_self))) Try.underlying42 rfl (by kernel_rfl) ?_))
      go_ret
      exact ⟨rfl, HZ.out⟩
    · have d10 : (f == 0) = false := beq_eq_false_iff_ne.mpr hf
      clear hf Y4
      go_wp2_with (go_at_call 9; (with_reducible refine (notarylaw36_awake.calls ka true _ HA.out).mono ?_); rintro y wz ⟨rfl, hz⟩; (have HZ := Aside0.mk (S6.out.below hz).bel); clear hz)
      go_ret
      exact ⟨rfl, HZ.out⟩
end Go.Proofs.Ytiamcmjdoobaeaa.Walk
