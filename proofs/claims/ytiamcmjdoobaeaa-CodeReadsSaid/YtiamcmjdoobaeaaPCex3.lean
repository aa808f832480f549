-- SLIM: a printed text of which the unused ways are cut off
-- PRINTED by print.py (a twelfth state) out of the translation. Not trusted: Lean checks it.
import Derived.Test.YtiamcmjdoobaeaaPCex0
import Derived.Test.YtiamcmjdoobaeaaPCex2
namespace Go.Proofs.Ytiamcmjdoobaeaa.PCe
open Go.RowKit Go.Proofs.YtiamcmjdoobaeaaW.PrintWords Go.Proofs.YtiamcmjdoobaeaaW.PrintLast Go.Proofs.YtiamcmjdoobaeaaW.PrintMore
attribute [local go_sem] max2_int min2_int max_two min_two max_three min_three max_four min_four   -- for this text's walks alone
set_option linter.unusedVariables false
set_option linter.unusedSimpArgs false

/-! ### code_rs: function 79 (given) -/
/-- some cells of a struct stored: the world behind it by what it is good for -/
theorem code_rs.put_part {P : Program} {ops : Array Oper} {rest : List Oper} {o : Oper} {a : Act} {w0 W : World} {Q : Exit → Act → World → Prop} (B : Nat) (hgd : o.guard = none) (ty : TypeId) (x y : Operand) (ho : o.op = .store ty x y)
    (g off : Nat) (cells : Array Value) (hx : a.eval x = .pointer (some ⟨g, off, none⟩)) (hy : a.eval y = .agg cells)
    (t : TypeId) (old new : Array Value) (hg : W.heap[g]? = some (.cells old t (0, 0))) (hi : (P.info? ty).map (·.size) = some cells.size)
    (hle : off + cells.size ≤ old.size) (h1 : cells.all (·.oneCell') = true) (hn : (old.toList.take off ++ cells.toList ++ old.toList.drop (off + cells.size)).toArray = new) (HB : Below B w0 W) (hB : B ≤ g)
    (h : ∀ w2, w2.heap[g]? = some (.cells new t (0, 0)) → (∀ k, k ≠ g → w2.heap[k]? = W.heap[k]?) → w2.heap.size = W.heap.size → Below B w0 w2 → wpList P ops Q rest (a.put o.dst undef) w2) : wpList P ops Q (o :: rest) a W := by
  refine wpList_plain hgd fun K hK => ?_
  have hr := run_storeCells_at (P := P) g off t cells.toList 0 old W hg (by simpa using hle) (fun v hv => (Array.all_eq_true_iff_forall_mem.1 h1) v (by simpa using hv))
  have hs : (Instr.storeAt ty (.pointer (some ⟨g, off, none⟩)) (.agg cells)).run P W = .ok () (W.setRow g new) := by
    cases hq : P.info? ty with
    | none => simp [hq] at hi
    | some i =>
      have hz : cells.size = i.size := by simp [hq] at hi; omega
      have hr2 : (storeCells ⟨g, off, none⟩ cells.toList).run P W = .ok () (W.setRow g new) := by rw [← hn]; simpa using hr
      simp only [Instr.storeAt, Instr.sureAddr, Sem.run_bind, Sem.run_pure, Result.andThen_ok]
      simp [storeVar, sizeOf, typeInfo, hq, Value.cells, hz, hr2]
  unfold Oper.wp execOp
  simp only [ho, hx, hy, hs, Sem.run_bind, Sem.run_pure, Result.andThen_ok]
  exact hK _ _ (h _ (setRow_heap _ _ _ _ _ _ hg) (fun k hk => setRow_other _ _ _ _ hk) (by simp) (code_rd.below_row HB hB _))
/-- a reader beside rows of its own: the row that is being filled is d -/
structure code_rs.St (w0 w : World) (g : Nat) (A : Option Addr) (c : Nat) (b : List Int) (rs : List (Nat × Nat × Array Value)) (d td : Nat) (cs : Array Value) (p lv e : Int) (W : World) : Prop where
  rd : code_rd.Rd w0 W g A c b p lv e
  keep : KeepBut w W g none
  row : ∀ r ∈ rs, r.1 ≠ d ∧ r.1 ≠ g ∧ W.heap[r.1]? = some (.cells r.2.2 r.2.1 (0, 0))
  loc : W.heap[d]? = some (.cells cs td (0, 0))
  dge : w.heap.size ≤ d
  hg : g < w.heap.size
section
variable {w0 w W W' : World} {g : Nat} {A : Option Addr} {c : Nat} {b : List Int} {rs : List (Nat × Nat × Array Value)} {d td : Nat} {cs : Array Value} {p lv e p' lv' e' : Int}
theorem code_rs.St.call (s : code_rs.St w0 w g A c b rs d td cs p lv e W) (hr : code_rd.Rd w0 W' g A c b p' lv' e') (hk : KeepBut W W' g none) : code_rs.St w0 w g A c b rs d td cs p' lv' e' W' :=
  ⟨hr, s.keep.trans hk (.inl rfl), fun r h => ⟨(s.row r h).1, (s.row r h).2.1, code_rd.kb hk (s.row r h).2.2 (s.row r h).2.1⟩, code_rd.kb hk s.loc (by have := s.dge; have := s.hg; omega), s.dge, s.hg⟩
theorem code_rs.St.put (s : code_rs.St w0 w g A c b rs d td cs p lv e W) (i : Nat) (v : Value) {cs' : Array Value} (hc : cs.setIfInBounds i v = cs') : code_rs.St w0 w g A c b rs d td cs' p lv e (W.setCell ⟨d, i, none⟩ v) :=
  ⟨code_rd.far s.rd (by have := s.rd.ge; have := s.dge; have := s.hg; omega) (by have := s.dge; have := s.hg; omega) _, keep_far s.keep s.dge _, fun r h => ⟨(s.row r h).1, (s.row r h).2.1, blk_far (s.row r h).2.2 (s.row r h).1 _⟩, blk_put s.loc i v hc, s.dge, s.hg⟩
theorem code_rs.St.set2 (s : code_rs.St w0 w g A c b rs d td cs p lv e W) (q : Int) : code_rs.St w0 w g A c b rs d td cs p q e (W.setCell ⟨g, 2, none⟩ (.int .i64 q)) :=
  ⟨code_rd.set2 s.rd q, s.keep.set_ 2 _, fun r h => ⟨(s.row r h).1, (s.row r h).2.1, blk_far (s.row r h).2.2 (s.row r h).2.1 _⟩, blk_far s.loc (by show d ≠ g; have := s.dge; have := s.hg; omega) _, s.dge, s.hg⟩
theorem code_rs.St.set3 (s : code_rs.St w0 w g A c b rs d td cs p lv e W) (q : Int) : code_rs.St w0 w g A c b rs d td cs p lv q (W.setCell ⟨g, 3, none⟩ (.int .i64 q)) :=
  ⟨code_rd.set3 s.rd q, s.keep.set_ 3 _, fun r h => ⟨(s.row r h).1, (s.row r h).2.1, blk_far (s.row r h).2.2 (s.row r h).2.1 _⟩, blk_far s.loc (by show d ≠ g; have := s.dge; have := s.hg; omega) _, s.dge, s.hg⟩
theorem code_rs.St.part (s : code_rs.St w0 w g A c b rs d td cs p lv e W) {cs' : Array Value} (hc : W'.heap[d]? = some (.cells cs' td (0, 0))) (ho : ∀ k, k ≠ d → W'.heap[k]? = W.heap[k]?) (hz : W'.heap.size = W.heap.size) (hb : Below d W W') : code_rs.St w0 w g A c b rs d td cs' p lv e W' :=
  ⟨code_rd.other s.rd (ho g (by have := s.dge; have := s.hg; omega)) (hb.mono (by have := s.rd.ge; have := s.dge; have := s.hg; omega)), ⟨by have := s.keep.1; omega, fun i hi hg hr => (ho i (by have := s.dge; omega)).trans (s.keep.2 i hi hg hr)⟩, fun r h => ⟨(s.row r h).1, (s.row r h).2.1, (ho r.1 (s.row r h).1).trans (s.row r h).2.2⟩, hc, s.dge, s.hg⟩
theorem code_rs.St.g0 (s : code_rs.St w0 w g A c b rs d td cs p lv e W) (i : Nat) {v : Value} (h : (#[.slice A b.length c, .int .i64 p, .int .i64 lv, .int .i64 e] : Array Value)[i]? = some v) : W.cell? ⟨g, i, none⟩ = some v := (blk_cell s.rd.blk i).trans h
theorem code_rs.St.f0 (s : code_rs.St w0 w g A c b rs d td cs p lv e W) (i : Nat) : W.frozen? ⟨g, i, none⟩ = false := blk_frozen s.rd.blk i
theorem code_rs.St.d0 (s : code_rs.St w0 w g A c b rs d td cs p lv e W) (i : Nat) {v : Value} (h : cs[i]? = some v) : W.cell? ⟨d, i, none⟩ = some v := (blk_cell s.loc i).trans h
theorem code_rs.St.fd (s : code_rs.St w0 w g A c b rs d td cs p lv e W) (i : Nat) : W.frozen? ⟨d, i, none⟩ = false := blk_frozen s.loc i
theorem code_rs.Fk {α : Type} {k : Kd α} {A : Option Addr} {n B : Nat} {l : List α} (h : Kd.F k W (fun q => B ≤ q) A n l) (hk : KeepBut W W' g none) (hg : g < B) : Kd.F k W' (fun q => B ≤ q) A n l := Kd.F_step h (fun q hq hlt => hk.2 q hlt (by have h2 : B ≤ q := hq; omega) (by simp))
theorem code_rs.Fs {α : Type} {k : Kd α} {A : Option Addr} {n B : Nat} {l : List α} (h : Kd.F k W (fun q => B ≤ q) A n l) {i j : Nat} (hi : i < B) (v : Value) : Kd.F k (W.setCell ⟨i, j, none⟩ v) (fun q => B ≤ q) A n l := Kd.F_step h (fun q hq hlt => Below.heap_setCell W ⟨i, j, none⟩ v q (by have h2 : B ≤ q := hq; show q ≠ i; omega))
theorem code_rs.Fo {α : Type} {k : Kd α} {A : Option Addr} {n B i : Nat} {l : List α} (h : Kd.F k W (fun q => B ≤ q) A n l) (ho : ∀ k, k ≠ i → W'.heap[k]? = W.heap[k]?) (hi : i < B) : Kd.F k W' (fun q => B ≤ q) A n l := Kd.F_step h (fun q hq hlt => ho q (by have h2 : B ≤ q := hq; omega))
theorem code_rs.Fm {α : Type} {k : Kd α} {A : Option Addr} {n B B' : Nat} {l : List α} (h : Kd.F k W (fun q => B ≤ q) A n l) (hb : B' ≤ B) : Kd.F k W (fun q => B' ≤ q) A n l := Kd.F_mono h (fun q hq => by have h2 : B ≤ q := hq; omega)
end
def code_rs.back (q e : Int) : Int := if e = 0 ∧ q > 1 then 2 else e
def code_rs.step (k : Nat) (b : List Int) (p e : Int) : Option (S39 × Int × Int) := if b.length < 1000000000000 then (code_rr.index k b p e).bind fun r => (code_rd.one b r.2.1 r.2.2).bind fun q => (code_rr.manyI (code_rr.index k b) k b q.2.1 (code_rs.back q.1 q.2.2)).bind fun l => (code_rr.manyI (code_rr.index k b) k b l.2.1 l.2.2).bind fun m => (code_rd.term k b 0 m.2.1 m.2.2).bind fun t => some (⟨r.1, q.1 == 1, l.1, m.1, t.1⟩, t.2.1, t.2.2) else none
def code_rs.SPost (w0 : World) (g : Nat) (A : Option Addr) (c : Nat) (b : List Int) (p lv e : Int) (W : World) (x : S39) (y : Ending) (W' : World) : Prop := ∃ A4 c4 A5 c5 A9 c9, y = .returned (.agg #[.int .i64 x.f0, .bool x.f1, .slice A4 x.f2.length c4, .slice A5 x.f3.length c5, .int .i64 x.f4.f0, .int .i64 x.f4.f1, .string x.f4.f2, .slice A9 x.f4.f3.length c9, .int .i64 x.f4.f4, .int .i64 x.f4.f5]) ∧ Kd.FK k39 W' (fun q => W.heap.size ≤ q) x [.int .i64 x.f0, .bool x.f1, .slice A4 x.f2.length c4, .slice A5 x.f3.length c5, .int .i64 x.f4.f0, .int .i64 x.f4.f1, .string x.f4.f2, .slice A9 x.f4.f3.length c9, .int .i64 x.f4.f4, .int .i64 x.f4.f5] ∧ code_rd.Rd w0 W' g A c b p lv e ∧ KeepBut W W' g none
theorem code_rs.index_I (k : Nat) (w0 : World) (g : Nat) (A : Option Addr) (c : Nat) (b : List Int) (lv : Int) : ∀ p e x p' e' W, code_rd.Rd w0 W g A c b p lv e → code_rr.index k b p e = some (x, p', e') → Calls Try.prog 81 #[.pointer (some ⟨g, 0, none⟩)] W (code_rr.IPost w0 g A c b p' lv e' W x) := fun p e x p' e' W hR h => code_rr.index_calls k w0 W g A c b p lv e x p' e' hR h
set_option maxHeartbeats 8000000 in
set_option maxRecDepth 100000 in
theorem code_rs.step_calls (k : Nat) (w0 w : World) (g : Nat) (A : Option Addr) (c : Nat) (b : List Int) (p lv e : Int) (x : S39) (p' e' : Int) (hlv : -1000000 ≤ lv ∧ lv ≤ 1000000) (hI : code_rd.Rd w0 w g A c b p lv e) (h : code_rs.step k b p e = some (x, p', e')) :
    Calls Try.prog 79 #[.pointer (some ⟨g, 0, none⟩)] w (code_rs.SPost w0 g A c b p' lv e' w x) := by
  have hu := Try.underlying39
  have hu2 := Try.underlying75
  have hu3 := Try.underlying25
  have hmf : ∀ (fn : Fn) (first cap : Array Value) (w : World), (Instr.makeFunc fn first cap).run Try.prog w = .ok (.func fn first cap) w := fun _ _ _ _ => rfl
  unfold code_rs.step at h
  by_cases hb : b.length < 1000000000000
  case neg => rw [if_neg hb] at h; exact absurd h (by simp)
  rw [if_pos hb] at h
  obtain ⟨⟨r, p1, e1⟩, h1, h⟩ := Option.bind_eq_some_iff.mp h
  obtain ⟨⟨q, p2, e2⟩, h2, h⟩ := Option.bind_eq_some_iff.mp h
  obtain ⟨⟨l4, p3, e3⟩, h3, h⟩ := Option.bind_eq_some_iff.mp h
  obtain ⟨⟨l5, p4, e4⟩, h4, h⟩ := Option.bind_eq_some_iff.mp h
  obtain ⟨⟨t, p5, e5⟩, h5, h⟩ := Option.bind_eq_some_iff.mp h
  have h9 := Option.some.inj h
  simp only [Prod.mk.injEq] at h9
  obtain ⟨rfl, rfl, rfl⟩ := h9
  have H1 := Aside0.mk h1
  have H2 := Aside0.mk h2
  have H3 := Aside0.mk h3
  have H4 := Aside0.mk h4
  have H5 := Aside0.mk h5
  have HI := Aside0.mk hI
  have HBL := Aside0.mk hb
  have HLV := Aside0.mk hlv
  have HG := Aside0.mk (blk_lt hI.blk)
  obtain ⟨W0, hW0⟩ : ∃ W0 : World, W0 = (w.alloc (.cells #[.int .i64 0, .bool false, .slice none 0 0, .slice none 0 0, .int .i64 0, .int .i64 0, .string (⟨#[]⟩ : ByteArray), .slice none 0 0, .int .i64 0, .int .i64 0] 39)).alloc (.cells #[.int .i64 0, .bool false, .slice none 0 0, .slice none 0 0, .int .i64 0, .int .i64 0, .string (⟨#[]⟩ : ByteArray), .slice none 0 0, .int .i64 0, .int .i64 0] 39) := ⟨_, rfl⟩
  have s0 : code_rs.St w0 w g A c b [(w.heap.size, 39, #[.int .i64 0, .bool false, .slice none 0 0, .slice none 0 0, .int .i64 0, .int .i64 0, .string (⟨#[]⟩ : ByteArray), .slice none 0 0, .int .i64 0, .int .i64 0])] (w.heap.size + 1) 39 #[.int .i64 0, .bool false, .slice none 0 0, .slice none 0 0, .int .i64 0, .int .i64 0, .string (⟨#[]⟩ : ByteArray), .slice none 0 0, .int .i64 0, .int .i64 0] p lv e W0 := by
    have hb0 : Below w.heap.size w W0 := by rw [hW0]; exact below_alloc (below_alloc (Below.refl _ _) _) _
    refine ⟨code_rd.move hI hb0, KeepBut.of_below hb0 g none, fun r hr => ?_, ?_, by omega, blk_lt hI.blk⟩
    · rw [List.mem_singleton] at hr
      subst hr
      exact ⟨by show w.heap.size ≠ w.heap.size + 1; omega, by have := blk_lt hI.blk; show w.heap.size ≠ g; omega, by rw [hW0]; exact blk_alloc (blk_new _ _) _⟩
    · rw [hW0]
      have := blk_new (w.alloc (.cells #[.int .i64 0, .bool false, .slice none 0 0, .slice none 0 0, .int .i64 0, .int .i64 0, .string (⟨#[]⟩ : ByteArray), .slice none 0 0, .int .i64 0, .int .i64 0] 39)) (.cells #[.int .i64 0, .bool false, .slice none 0 0, .slice none 0 0, .int .i64 0, .int .i64 0, .string (⟨#[]⟩ : ByteArray), .slice none 0 0, .int .i64 0, .int .i64 0] 39)
      simpa using this
  have S0 := Aside0.mk s0
  clear h h1 h2 h3 h4 h5 hI hb hlv s0
  go_enter Try.func79, Try.ntmps79
  go_upto_region 2 with (fail)
  rw [← hW0]
  clear hW0
  go_upto_region 3 with (go_at_call 81; (with_reducible refine (code_rr.index_calls k w0 _ g A c b p lv e r p1 e1 S0.out.rd H1.out).mono ?_); rintro y w1 ⟨rfl, hi1, hk1⟩; (have s1 := S0.out.call hi1 hk1); (have x1 := s1.d0 0 rfl); (have f1 := s1.fd 0); (have S1 := Aside0.mk s1); clear hi1 hk1 s1)
  obtain ⟨W1, hW1⟩ : ∃ W1 : World, W1 = w1.setCell ⟨w.heap.size + 1, 0, none⟩ (.int .i64 r) := ⟨_, rfl⟩
  rw [← hW1]
  have T1 : Aside0 (code_rs.St w0 w g A c b [(w.heap.size, 39, #[.int .i64 0, .bool false, .slice none 0 0, .slice none 0 0, .int .i64 0, .int .i64 0, .string (⟨#[]⟩ : ByteArray), .slice none 0 0, .int .i64 0, .int .i64 0])] (w.heap.size + 1) 39 #[.int .i64 r, .bool false, .slice none 0 0, .slice none 0 0, .int .i64 0, .int .i64 0, .string (⟨#[]⟩ : ByteArray), .slice none 0 0, .int .i64 0, .int .i64 0] p1 lv e1 W1) := ⟨by rw [hW1]; exact S1.out.put 0 _ rfl⟩
  clear hW1 x1 f1
  go_upto_region 4 with (go_at_call 70; (with_reducible refine (code_rd.one_calls w0 _ g A c b p1 lv e1 q p2 e2 HBL.out T1.out.rd H2.out).mono ?_); rintro y w2 ⟨rfl, hi2, hk2⟩; (have S2 := Aside0.mk (T1.out.call hi2 hk2)); clear hi2 hk2)
  have x3 := S2.out.g0 3 rfl
  obtain ⟨cb, hcb⟩ : ∃ cb, cb = decide (e2 = 0 ∧ q > 1) := ⟨_, rfl⟩
  have HCB := Aside0.mk hcb
  clear hcb
  go_cut [19] from 11 to 19 (fun v19 wc => v19 = .bool cb ∧ wc = w2)
  case first =>
    by_cases c1 : e2 = 0
    · have b1 : (e2 == 0) = true := by simpa using c1
      by_cases c2 : q > 1
      · have b2 : decide (1 < q) = true := decide_eq_true c2
        have hv : decide (e2 = 0 ∧ q > 1) = true := decide_eq_true ⟨c1, c2⟩
        have HV := Aside0.mk hv
        clear hv c1 c2
        go_wp2
        go_meet
        case rel => exact ⟨congrArg Value.bool (HCB.out.trans HV.out).symm, rfl⟩
      · have b2 : decide (1 < q) = false := decide_eq_false c2
        have hv : decide (e2 = 0 ∧ q > 1) = false := decide_eq_false (fun h => c2 h.2)
        have HV := Aside0.mk hv
        clear hv c1 c2
        go_wp2
        go_meet
        case rel => exact ⟨congrArg Value.bool (HCB.out.trans HV.out).symm, rfl⟩
    · have b1 : (e2 == 0) = false := by simpa using c1
      have hv : decide (e2 = 0 ∧ q > 1) = false := decide_eq_false (fun h => c1 h.1)
      have HV := Aside0.mk hv
      clear hv c1
      go_wp2
      go_meet
      case rel => exact ⟨congrArg Value.bool (HCB.out.trans HV.out).symm, rfl⟩
  case rest =>
  obtain ⟨rfl, rfl⟩ := hcut
  obtain ⟨W2, rfl⟩ : ∃ W2 : World, W2 = wc := ⟨_, rfl⟩
  clear x3
  have f3 := S2.out.f0 3
  have x3 := S2.out.g0 3 rfl
  go_upto_if 19 with (fail)
  go_cut [] from 20 to 22 (fun wd => Aside0 (code_rs.St w0 w g A c b [(w.heap.size, 39, #[.int .i64 0, .bool false, .slice none 0 0, .slice none 0 0, .int .i64 0, .int .i64 0, .string (⟨#[]⟩ : ByteArray), .slice none 0 0, .int .i64 0, .int .i64 0])] (w.heap.size + 1) 39 #[.int .i64 r, .bool false, .slice none 0 0, .slice none 0 0, .int .i64 0, .int .i64 0, .string (⟨#[]⟩ : ByteArray), .slice none 0 0, .int .i64 0, .int .i64 0] p2 lv (code_rs.back q e2) wd))
  case first =>
    cases cb with
    | true =>
      have hk := of_decide_eq_true HCB.out.symm
      have hkd : code_rs.back q e2 = 2 := if_pos hk
      have HK := Aside0.mk hkd
      clear hk hkd
      go_wp2
      go_meet
      case rel => exact ⟨by rw [HK.out]; exact S2.out.set3 _⟩
    | false =>
      have hk := of_decide_eq_false HCB.out.symm
      have hkd : code_rs.back q e2 = e2 := if_neg hk
      have HK := Aside0.mk hkd
      clear hk hkd
      go_wp2
      go_meet
      case rel => exact ⟨by rw [HK.out]; exact S2.out⟩
  case rest =>
  have S3 := hcut
  clear x3 f3
  obtain ⟨W3, rfl⟩ : ∃ W3 : World, W3 = wc := ⟨_, rfl⟩
  have x3 := S3.out.d0 1 rfl
  have f3 := S3.out.fd 1
  go_upto_region 7 with (fail)
  obtain ⟨W4, hW4⟩ : ∃ W4 : World, W4 = W3.setCell ⟨w.heap.size + 1, 1, none⟩ (.bool (q == 1)) := ⟨_, rfl⟩
  rw [← hW4]
  have S4 : Aside0 (code_rs.St w0 w g A c b [(w.heap.size, 39, #[.int .i64 0, .bool false, .slice none 0 0, .slice none 0 0, .int .i64 0, .int .i64 0, .string (⟨#[]⟩ : ByteArray), .slice none 0 0, .int .i64 0, .int .i64 0])] (w.heap.size + 1) 39 #[.int .i64 r, .bool (q == 1), .slice none 0 0, .slice none 0 0, .int .i64 0, .int .i64 0, .string (⟨#[]⟩ : ByteArray), .slice none 0 0, .int .i64 0, .int .i64 0] p2 lv (code_rs.back q e2) W4) := ⟨by rw [hW4]; exact S3.out.put 1 _ rfl⟩
  clear hW4 x3 f3
  go_upto_region 8 with (go_at_call 80; (with_reducible refine (code_rr.many_callsI (code_rr.index k b) w0 g A c b lv (code_rs.index_I k w0 g A c b lv) k p2 (code_rs.back q e2) l4 p3 e3 _ S4.out.rd H3.out).mono ?_); rintro y w5 ⟨A4, c4, rfl, hl, hf, hi, hk⟩; (have s := S4.out.call hi hk); (have x3 := s.d0 2 rfl); (have f3 := s.fd 2); (have L5 := Aside0.mk hl); (have S5 := Aside0.mk s); (have F5 := Aside0.mk (code_rs.Fm (B' := w.heap.size + 2) hf (by have := blk_lt S4.out.loc; omega))); clear hl hf hi hk s)
  obtain ⟨W6, hW6⟩ : ∃ W : World, W = w5.setCell ⟨w.heap.size + 1, 2, none⟩ (.slice A4 l4.length c4) := ⟨_, rfl⟩
  rw [← hW6]
  have S6 : Aside0 (code_rs.St w0 w g A c b [(w.heap.size, 39, #[.int .i64 0, .bool false, .slice none 0 0, .slice none 0 0, .int .i64 0, .int .i64 0, .string (⟨#[]⟩ : ByteArray), .slice none 0 0, .int .i64 0, .int .i64 0])] (w.heap.size + 1) 39 #[.int .i64 r, .bool (q == 1), .slice A4 l4.length c4, .slice none 0 0, .int .i64 0, .int .i64 0, .string (⟨#[]⟩ : ByteArray), .slice none 0 0, .int .i64 0, .int .i64 0] p3 lv e3 W6) := ⟨by rw [hW6]; exact S5.out.put 2 _ rfl⟩
  have F6 : Aside0 (Kd.F (Kd.int .i64) W6 (fun q => w.heap.size + 2 ≤ q) A4 l4.length l4) := ⟨by rw [hW6]; exact code_rs.Fs F5.out (by omega) _⟩
  clear hW6 x3 f3 S5 F5
  go_upto_region 9 with (go_at_call 80; (with_reducible refine (code_rr.many_callsI (code_rr.index k b) w0 g A c b lv (code_rs.index_I k w0 g A c b lv) k p3 e3 l5 p4 e4 _ S6.out.rd H4.out).mono ?_); rintro y w7 ⟨A5, c5, rfl, hl, hf, hi, hk⟩; (have s := S6.out.call hi hk); (have x3 := s.d0 3 rfl); (have f3 := s.fd 3); (have L7 := Aside0.mk hl); (have S7 := Aside0.mk s); (have F7 := Aside0.mk (code_rs.Fm (B' := w.heap.size + 2) hf (by have := blk_lt S6.out.loc; omega))); (have G7 := Aside0.mk (code_rs.Fk F6.out hk (by have := HG.out; omega))); clear hl hf hi hk s)
  obtain ⟨W8, hW8⟩ : ∃ W : World, W = w7.setCell ⟨w.heap.size + 1, 3, none⟩ (.slice A5 l5.length c5) := ⟨_, rfl⟩
  rw [← hW8]
  have S8 : Aside0 (code_rs.St w0 w g A c b [(w.heap.size, 39, #[.int .i64 0, .bool false, .slice none 0 0, .slice none 0 0, .int .i64 0, .int .i64 0, .string (⟨#[]⟩ : ByteArray), .slice none 0 0, .int .i64 0, .int .i64 0])] (w.heap.size + 1) 39 #[.int .i64 r, .bool (q == 1), .slice A4 l4.length c4, .slice A5 l5.length c5, .int .i64 0, .int .i64 0, .string (⟨#[]⟩ : ByteArray), .slice none 0 0, .int .i64 0, .int .i64 0] p4 lv e4 W8) := ⟨by rw [hW8]; exact S7.out.put 3 _ rfl⟩
  have F8 : Aside0 (Kd.F (Kd.int .i64) W8 (fun q => w.heap.size + 2 ≤ q) A5 l5.length l5) := ⟨by rw [hW8]; exact code_rs.Fs F7.out (by omega) _⟩
  have G8 : Aside0 (Kd.F (Kd.int .i64) W8 (fun q => w.heap.size + 2 ≤ q) A4 l4.length l4) := ⟨by rw [hW8]; exact code_rs.Fs G7.out (by omega) _⟩
  clear hW8 x3 f3 S7 F7 G7 F6
  have x2 := S8.out.g0 2 rfl
  have f2 := S8.out.f0 2
  go_upto_region 11 with (fail)
  obtain ⟨W9, hW9⟩ : ∃ W : World, W = W8.setCell ⟨g, 2, none⟩ (.int .i64 0) := ⟨_, rfl⟩
  rw [← hW9]
  have hgg : g < w.heap.size := HG.out
  have S9 : Aside0 (code_rs.St w0 w g A c b [(w.heap.size, 39, #[.int .i64 0, .bool false, .slice none 0 0, .slice none 0 0, .int .i64 0, .int .i64 0, .string (⟨#[]⟩ : ByteArray), .slice none 0 0, .int .i64 0, .int .i64 0])] (w.heap.size + 1) 39 #[.int .i64 r, .bool (q == 1), .slice A4 l4.length c4, .slice A5 l5.length c5, .int .i64 0, .int .i64 0, .string (⟨#[]⟩ : ByteArray), .slice none 0 0, .int .i64 0, .int .i64 0] p4 0 e4 W9) := ⟨by rw [hW9]; exact S8.out.set2 0⟩
  have F9 : Aside0 (Kd.F (Kd.int .i64) W9 (fun q => w.heap.size + 2 ≤ q) A5 l5.length l5) := ⟨by rw [hW9]; exact code_rs.Fs F8.out (by omega) _⟩
  have G9 : Aside0 (Kd.F (Kd.int .i64) W9 (fun q => w.heap.size + 2 ≤ q) A4 l4.length l4) := ⟨by rw [hW9]; exact code_rs.Fs G8.out (by omega) _⟩
  clear hW9 x2 f2 S8 F8 G8 hgg
  go_upto_region 12 with (first | (refine code_rs.put_part (w0 := wa) (w.heap.size + 1) rfl 25 (.tmp 45) (.tmp 44) rfl (w.heap.size + 1) 4 #[.int .i64 t.f0, .int .i64 t.f1, .string t.f2, .slice A9 t.f3.length c9, .int .i64 t.f4, .int .i64 t.f5] rfl rfl 39 _ #[.int .i64 r, .bool (q == 1), .slice A4 l4.length c4, .slice A5 l5.length c5, .int .i64 t.f0, .int .i64 t.f1, .string t.f2, .slice A9 t.f3.length c9, .int .i64 t.f4, .int .i64 t.f5] SA.out.loc (by kernel_rfl) (by simp) (by simp [Value.oneCell']) rfl (Below.refl _ _) (Nat.le_refl _) ?_; intro wb hc ho hz hb; (have sb := SA.out.part hc ho hz hb); (have x2 := sb.g0 2 rfl); (have f2 := sb.f0 2); (have SB := Aside0.mk sb); (have FB := Aside0.mk (code_rs.Fo FA.out ho (by omega))); (have GB := Aside0.mk (code_rs.Fo GA.out ho (by omega))); (have TB := Aside0.mk (code_rs.Fo TA.out ho (by omega))); clear hc ho hz hb sb) | (go_at_call 37; (with_reducible refine (code_rd.term_calls k w0 g A c b 0 p4 e4 t p5 e5 _ S9.out.rd H5.out).mono ?_); rintro y wa ⟨A9, c9, rfl, hl9, hf9, hi, hk⟩; (have SA := Aside0.mk (S9.out.call hi hk)); (have LA := Aside0.mk hl9); (have TA := Aside0.mk (code_rs.Fm (B' := w.heap.size + 2) hf9 (by have := blk_lt S9.out.loc; omega))); (have FA := Aside0.mk (code_rs.Fk F9.out hk (by have := HG.out; omega))); (have GA := Aside0.mk (code_rs.Fk G9.out hk (by have := HG.out; omega))); clear hl9 hf9 hi hk))
  clear SA FA GA TA S9 F9 G9
  go_upto_region 13 with (fail)
  obtain ⟨WC, hWC⟩ : ∃ W : World, W = wb.setCell ⟨g, 2, none⟩ (.int .i64 lv) := ⟨_, rfl⟩
  rw [← hWC]
  have hgg : g < w.heap.size := HG.out
  have SC : Aside0 (code_rs.St w0 w g A c b [(w.heap.size, 39, #[.int .i64 0, .bool false, .slice none 0 0, .slice none 0 0, .int .i64 0, .int .i64 0, .string (⟨#[]⟩ : ByteArray), .slice none 0 0, .int .i64 0, .int .i64 0])] (w.heap.size + 1) 39 #[.int .i64 r, .bool (q == 1), .slice A4 l4.length c4, .slice A5 l5.length c5, .int .i64 t.f0, .int .i64 t.f1, .string t.f2, .slice A9 t.f3.length c9, .int .i64 t.f4, .int .i64 t.f5] p5 lv e5 WC) := ⟨by rw [hWC]; exact SB.out.set2 lv⟩
  have FC : Aside0 (Kd.F (Kd.int .i64) WC (fun q => w.heap.size + 2 ≤ q) A5 l5.length l5) := ⟨by rw [hWC]; exact code_rs.Fs FB.out (by omega) _⟩
  have GC : Aside0 (Kd.F (Kd.int .i64) WC (fun q => w.heap.size + 2 ≤ q) A4 l4.length l4) := ⟨by rw [hWC]; exact code_rs.Fs GB.out (by omega) _⟩
  have TC : Aside0 (Kd.F k25 WC (fun q => w.heap.size + 2 ≤ q) A9 t.f3.length t.f3) := ⟨by rw [hWC]; exact code_rs.Fs TB.out (by omega) _⟩
  clear hWC x2 f2 SB FB GB TB hgg
  have hz2 : w.heap.size ≠ w.heap.size + 1 := by omega
  go_wp2_with (first | (refine wpList_load_row rfl 39 (.tmp 3) rfl (w.heap.size + 1) rfl 39 _ (0, 0) _ SC.out.loc Try.underlying39 rfl (by kernel_rfl) ?_) | (refine code_rd.put_row (w0 := WC) w.heap.size rfl 39 (.tmp 2) (.tmp 50) rfl w.heap.size #[.int .i64 r, .bool (q == 1), .slice A4 l4.length c4, .slice A5 l5.length c5, .int .i64 t.f0, .int .i64 t.f1, .string t.f2, .slice A9 t.f3.length c9, .int .i64 t.f4, .int .i64 t.f5] rfl rfl 39 _ (SC.out.row _ (List.mem_singleton.2 rfl)).2.2 (by kernel_rfl) rfl (by simp [Value.oneCell']) (Below.refl _ _) (Nat.le_refl _) ?_; intro WD hgD hoD hzD hbD; (have HGD := Aside0.mk hgD); (have HOD := Aside0.mk hoD); (have HBD := Aside0.mk hbD); clear hgD hoD hzD hbD))
  refine bodyPost_ret (results_cell_row rfl _ _ w.heap.size 39 _ (0, 0) _ rfl HGD.out Try.underlying39 rfl (by kernel_rfl)) rfl ?_
  have hFK := k39_mkF WD (fun q => w.heap.size + 2 ≤ q) ⟨r, q == 1, l4, l5, t⟩ L5.out (code_rs.Fo GC.out HOD.out (by omega)) L7.out (code_rs.Fo FC.out HOD.out (by omega)) LA.out (code_rs.Fo TC.out HOD.out (by omega))
  refine ⟨A4, c4, A5, c5, A9, c9, rfl, ?_, ?_, ?_⟩
  · exact fun W2 hW => hFK W2 (fun q hq => hW q (by have h2 : w.heap.size + 2 ≤ q := hq; show w.heap.size ≤ q; omega))
  · exact code_rd.other SC.out.rd (HOD.out g (by have := HG.out; omega)) (HBD.out.mono (by have := HG.out; have := SC.out.rd.ge; omega))
  · exact ⟨by have := SC.out.keep.1; have := HBD.out.size; omega, fun i hi hg hr => (HOD.out i (by omega)).trans (SC.out.keep.2 i hi hg hr)⟩
def code_rs.kind (K e : Int) : Int := if e = 0 ∧ (K < 1 ∨ K > 3) then 23 else e
def code_rs.deriv : Nat → List Int → Int → Int → Int → Option (S42 × Int × Int)
  | 0, _, _, _, _ => none
  | k + 1, b, lv, p, e => if (-1000000 ≤ lv ∧ lv ≤ 900000) ∧ b.length < 1000000000000 then (if (code_rd.down lv e).1 = true then (code_rd.one b p (code_rd.down lv e).2.2).bind fun q => (if q.1 = 1 then (code_rs.step k b q.2.1 (code_rs.kind q.1 q.2.2)).bind fun s => some (⟨q.1, [], s.1, []⟩, s.2.1, s.2.2) else (if q.1 = 3 then code_rr.manyI (code_rr.index k b) k b q.2.1 (code_rs.kind q.1 q.2.2) else some ([], q.2.1, code_rs.kind q.1 q.2.2)).bind fun l => (code_rr.manyD (code_rs.deriv k b (lv + 1)) k b l.2.1 l.2.2).bind fun m => some (⟨q.1, l.1, ⟨0, false, [], [], ⟨0, 0, ⟨#[]⟩, [], 0, 0⟩⟩, m.1⟩, m.2.1, m.2.2)) else some (⟨0, [], ⟨0, false, [], [], ⟨0, 0, ⟨#[]⟩, [], 0, 0⟩⟩, []⟩, p, (code_rd.down lv e).2.2)) else none
theorem code_rs.undo (g h : Nat) (lv : Int) (hlv : -1000000 ≤ lv ∧ lv ≤ 1000000) (u : FrameMode) (w : World) (h0 : w.cell? ⟨h, 0, none⟩ = some (.pointer (some ⟨g, 0, none⟩))) (h2 : w.cell? ⟨g, 2, none⟩ = some (.int .i64 (lv + 1))) (f2 : w.frozen? ⟨g, 2, none⟩ = false) :
    CallsD Try.prog 78 #[.pointer (some ⟨h, 0, none⟩)] u w fun e u' w' => u' = u ∧ (e = .returned (.tuple #[]) ∧ w' = w.setCell ⟨g, 2, none⟩ (.int .i64 lv)) := by
  have hu := Try.underlying75
  have hw : IntKind.i64.wrap (lv + 1 - 1) = lv := by rw [show lv + 1 - 1 = lv by omega]; exact IntWalk.i64_in _ (by omega)
  go_enter_d Try.func78, Try.ntmps78
  go_wp2
  go_end0
  (exact ⟨rfl, rfl⟩)
theorem code_rs.St.rc {w0 w W : World} {g : Nat} {A : Option Addr} {c : Nat} {b : List Int} {rs : List (Nat × Nat × Array Value)} {d td : Nat} {cs : Array Value} {p lv e : Int} (s : code_rs.St w0 w g A c b rs d td cs p lv e W) {h t : Nat} {z : Array Value} (hr : (h, t, z) ∈ rs) (i : Nat) {v : Value} (hv : z[i]? = some v) : W.cell? ⟨h, i, none⟩ = some v := (blk_cell (s.row _ hr).2.2 i).trans hv
theorem code_rs.FKm {α : Type} {k : Kd α} {W : World} {B B' : Nat} {x : α} {l : List Value} (h : Kd.FK k W (fun q => B ≤ q) x l) (hb : B' ≤ B) : Kd.FK k W (fun q => B' ≤ q) x l := fun W2 hW => h W2 (fun q hq => hW q (by have h2 : B ≤ q := hq; show B' ≤ q; omega))
theorem code_rs.FKo {α : Type} {k : Kd α} {W W' : World} {B i : Nat} {x : α} {l : List Value} (h : Kd.FK k W (fun q => B ≤ q) x l) (ho : ∀ k, k ≠ i → W'.heap[k]? = W.heap[k]?) (hi : i < B) (hz : W.heap.size ≤ W'.heap.size) : Kd.FK k W' (fun q => B ≤ q) x l := fun W2 hW => h W2 (fun q hq hlt => (hW q hq (Nat.lt_of_lt_of_le hlt hz)).trans (ho q (by have h2 : B ≤ q := hq; omega)))
def code_rs.SFin (w0 w : World) (g : Nat) (A : Option Addr) (c : Nat) (b : List Int) (g3 : Nat) (x : S42) (p lv e : Int) (l : List Value) (W : World) : Prop := code_rd.Rd w0 W g A c b p (lv + 1) e ∧ KeepBut w W g none ∧ W.heap[w.heap.size]? = some (.cells #[.pointer (some ⟨g, 0, none⟩)] 71 (0, 0)) ∧ W.heap[w.heap.size + 1]? = some (.cells l.toArray 42 (0, 0)) ∧ Kd.FK k42 W (fun q => w.heap.size + 2 ≤ q) x l
set_option maxHeartbeats 8000000 in
set_option maxRecDepth 100000 in
theorem code_rs.deriv_calls (k : Nat) : ∀ (w0 : World) (g : Nat) (A : Option Addr) (c : Nat) (b : List Int) (lv p e : Int) (x : S42) (p' e' : Int) (w : World), code_rd.Rd w0 w g A c b p lv e → code_rs.deriv k b lv p e = some (x, p', e') →
    Calls Try.prog 43 #[.pointer (some ⟨g, 0, none⟩)] w (code_rr.DPost w0 g A c b p' lv e' w x) := by
  induction k with
  | zero => intro w0 g A c b lv p e x p' e' w _ h; exact absurd h (by simp [code_rs.deriv])
  | succ k ih =>
  intro w0 g A c b lv p e x p' e' w hI h
  have hu := Try.underlying42
  have hu2 := Try.underlying75
  have hu3 := Try.underlying39
  have hmf : ∀ (fn : Fn) (first cap : Array Value) (w : World), (Instr.makeFunc fn first cap).run Try.prog w = .ok (.func fn first cap) w := fun _ _ _ _ => rfl
  rw [code_rs.deriv] at h
  by_cases hg0 : (-1000000 ≤ lv ∧ lv ≤ 900000) ∧ b.length < 1000000000000
  case neg => rw [if_neg hg0] at h; exact absurd h (by simp)
  rw [if_pos hg0] at h
  have hlv : -1000000 ≤ lv ∧ lv ≤ 1000000 := by omega
  have HIH := Aside0.mk ih
  have HI := Aside0.mk hI
  have HG := Aside0.mk (blk_lt hI.blk)
  have HL := Aside0.mk hg0
  have HLV := Aside0.mk hlv
  have HGE := Aside0.mk hI.ge
  obtain ⟨d1, hd1⟩ : ∃ d, d = (code_rd.down lv e).1 := ⟨_, rfl⟩
  obtain ⟨e1, he1⟩ : ∃ d, d = (code_rd.down lv e).2.2 := ⟨_, rfl⟩
  rw [← hd1, ← he1] at h
  have H1 := Aside0.mk h
  have HD := Aside0.mk (And.intro hd1 he1)
  clear ih hI h hg0 hlv hd1 he1
  go_enter_defers Try.func43, Try.ntmps43
  go_upto_if 7 with (go_at_call 69; (with_reducible refine (code_rd.down_calls w0 _ g A c b p lv e HLV.out (code_rd.move HI.out (by with_reducible repeat (first | exact Below.refl _ _ | apply below_alloc)))).mono ?_); rintro x w1 ⟨rfl, hi1, hk1⟩; rw [code_rd.down_lv, ← HD.out.2] at hi1; rw [← HD.out.1]; (have HI1 := Aside0.mk hi1); (have HK1 := Aside0.mk hk1); clear hi1 hk1)
  have hbr : KeepBut w w1 g none := ⟨by have := HK1.out.1; simp at this; omega, fun i hi hg hr => (HK1.out.2 i (by simp; omega) hg hr).trans ((below_alloc (below_alloc (Below.refl w.heap.size w) _) _).block i hi)⟩
  have k0 := code_rd.kb HK1.out (blk_alloc (blk_new w (.cells #[.pointer (some ⟨g, 0, none⟩)] 71)) (.cells #[.int .i64 0, .slice none 0 0, .int .i64 0, .bool false, .slice none 0 0, .slice none 0 0, .int .i64 0, .int .i64 0, .string (⟨#[]⟩ : ByteArray), .slice none 0 0, .int .i64 0, .int .i64 0, .slice none 0 0] 42)) (by have := HG.out; omega)
  have k2 := code_rd.kb HK1.out (blk_new (w.alloc (.cells #[.pointer (some ⟨g, 0, none⟩)] 71)) (.cells #[.int .i64 0, .slice none 0 0, .int .i64 0, .bool false, .slice none 0 0, .slice none 0 0, .int .i64 0, .int .i64 0, .string (⟨#[]⟩ : ByteArray), .slice none 0 0, .int .i64 0, .int .i64 0, .slice none 0 0] 42)) (by have := HG.out; simp; omega)
  rw [show (w.alloc (.cells #[.pointer (some ⟨g, 0, none⟩)] 71)).heap.size = w.heap.size + 1 by simp] at k2
  have hs1 : w.heap.size + 2 ≤ w1.heap.size := by have := HK1.out.1; simp at this; omega
  have K0 := Aside0.mk k0
  have K2 := Aside0.mk k2
  have HS1 := Aside0.mk hs1
  have HKB := Aside0.mk hbr
  have FIN : Aside0 (∀ W x p e l, code_rs.SFin w0 w g A c b 0 x p lv e l W → ∀ W2, W2 = W.setCell ⟨g, 2, none⟩ (.int .i64 lv) → code_rr.DPost w0 g A c b p lv e w x (.returned (.agg l.toArray)) W2) := ⟨by
    rintro W x p e l ⟨hr, hk, h0, h1, hf⟩ W2 rfl
    obtain ⟨A1, c1, A4, c4, A5, c5, A9, c9, A12, c12, rfl, l1, f1, l4, f4, l5, f5, l9, f9, l12, f12⟩ := k42_openF hf
    refine ⟨A1, c1, A4, c4, A5, c5, A9, c9, A12, c12, rfl, ?_, code_rd.set2 hr lv, hk.set_ 2 _⟩
    exact code_rs.FKm (code_rs.FKo (i := g) hf (fun q hq => Below.heap_setCell W ⟨g, 2, none⟩ _ q hq) (by have := HG.out; omega) (by simp)) (by omega)⟩
  clear k0 k2 hs1 hbr HK1
  cases d1 with
  | false =>
    have h := H1.out
    rw [if_neg (by decide)] at h
    have e4 := Option.some.inj h
    simp only [Prod.mk.injEq] at e4
    obtain ⟨rfl, rfl, rfl⟩ := e4
    clear h H1
    go_wp2_with (refine code_rd.put_row (w0 := w1) w.heap.size rfl 42 (.tmp 2) (.tmp 8) rfl (w.heap.size + 1) #[.int .i64 0, .slice none 0 0, .int .i64 0, .bool false, .slice none 0 0, .slice none 0 0, .int .i64 0, .int .i64 0, .string (⟨#[]⟩ : ByteArray), .slice none 0 0, .int .i64 0, .int .i64 0, .slice none 0 0] rfl rfl 42 _ K2.out (by kernel_rfl) rfl (by simp [Value.oneCell']) (Below.refl _ _) (by omega) ?_; intro W3 hg3 ho3 hz3 hb3; (have HG3 := Aside0.mk hg3); (have HO3 := Aside0.mk ho3); (have HB3 := Aside0.mk hb3); clear hg3 ho3 hz3 hb3)
    have hr3 : code_rd.Rd w0 W3 g A c b p (lv + 1) e1 := code_rd.other HI1.out (HO3.out g (by have := HG.out; omega)) (HB3.out.mono (by have := HGE.out; have := HG.out; have := HS1.out; omega))
    have hk3 : KeepBut w W3 g none := ⟨by have := HB3.out.size; have := HS1.out; omega, fun i hi hg hr => (HO3.out i (by omega)).trans (HKB.out.2 i hi hg hr)⟩
    have hfk : Kd.FK k42 W3 (fun q => w.heap.size + 2 ≤ q) ⟨0, [], ⟨0, false, [], [], ⟨0, 0, ⟨#[]⟩, [], 0, 0⟩⟩, []⟩ [.int .i64 0, .slice none 0 0, .int .i64 0, .bool false, .slice none 0 0, .slice none 0 0, .int .i64 0, .int .i64 0, .string (⟨#[]⟩ : ByteArray), .slice none 0 0, .int .i64 0, .int .i64 0, .slice none 0 0] := k42_mkF W3 _ ⟨0, [], ⟨0, false, [], [], ⟨0, 0, ⟨#[]⟩, [], 0, 0⟩⟩, []⟩ (Nat.le_refl _) (Kd.F_nil _ _ _) (Nat.le_refl _) (Kd.F_nil _ _ _) (Nat.le_refl _) (Kd.F_nil _ _ _) (Nat.le_refl _) (Kd.F_nil _ _ _) (Nat.le_refl _) (Kd.F_nil _ _ _)
    have hrow : W3.heap[w.heap.size]? = some (.cells #[.pointer (some ⟨g, 0, none⟩)] 71 (0, 0)) := (HO3.out w.heap.size (by omega)).trans K0.out
    have hf9 : code_rs.SFin w0 w g A c b 0 ⟨0, [], ⟨0, false, [], [], ⟨0, 0, ⟨#[]⟩, [], 0, 0⟩⟩, []⟩ p lv e1 [.int .i64 0, .slice none 0 0, .int .i64 0, .bool false, .slice none 0 0, .slice none 0 0, .int .i64 0, .int .i64 0, .string (⟨#[]⟩ : ByteArray), .slice none 0 0, .int .i64 0, .int .i64 0, .slice none 0 0] W3 := ⟨hr3, hk3, hrow, HG3.out, hfk⟩
    have z0 : W3.cell? ⟨w.heap.size, 0, none⟩ = some (.pointer (some ⟨g, 0, none⟩)) := (blk_cell hf9.2.2.1 0).trans rfl
    have z2 : W3.cell? ⟨g, 2, none⟩ = some (.int .i64 (lv + 1)) := (blk_cell hf9.1.blk 2).trans rfl
    have y2 : W3.frozen? ⟨g, 2, none⟩ = false := blk_frozen hf9.1.blk 2
    refine leaves_cons (f := 78) (args := #[.pointer (some ⟨w.heap.size, 0, none⟩)]) (by simp [Act.put]) (by simp [go_sem]) ?_
    refine (code_rs.undo g w.heap.size lv HLV.out _ _ z0 z2 y2).mono ?_
    rintro e u' w'' ⟨rfl, rfl, rfl⟩
    refine ⟨_, results_cell_row rfl _ _ (w.heap.size + 1) 42 _ (0, 0) _ rfl (blk_far (p := ⟨g, 2, none⟩) hf9.2.2.2.1 (show w.heap.size + 1 ≠ g by have := HG.out; omega) _) Try.underlying42 rfl (by kernel_rfl), ?_⟩
    exact FIN.out W3 ⟨0, [], ⟨0, false, [], [], ⟨0, 0, ⟨#[]⟩, [], 0, 0⟩⟩, []⟩ p e1 [.int .i64 0, .slice none 0 0, .int .i64 0, .bool false, .slice none 0 0, .slice none 0 0, .int .i64 0, .int .i64 0, .string (⟨#[]⟩ : ByteArray), .slice none 0 0, .int .i64 0, .int .i64 0, .slice none 0 0] hf9 _ rfl
  | true =>
    have h := H1.out
    rw [if_pos rfl] at h
    obtain ⟨⟨K, p1, e2⟩, hq, h⟩ := Option.bind_eq_some_iff.mp h
    have HQ := Aside0.mk hq
    have H2 := Aside0.mk h
    clear h H1 hq
    go_upto_region 5 with (fail)
    obtain ⟨W2, hW2⟩ : ∃ W : World, W = w1.alloc (.cells #[.int .i64 0, .slice none 0 0, .int .i64 0, .bool false, .slice none 0 0, .slice none 0 0, .int .i64 0, .int .i64 0, .string (⟨#[]⟩ : ByteArray), .slice none 0 0, .int .i64 0, .int .i64 0, .slice none 0 0] 42) := ⟨_, rfl⟩
    obtain ⟨g3, hg3⟩ : ∃ g3, g3 = w1.heap.size := ⟨_, rfl⟩
    rw [← hW2, ← hg3]
    have s2 : code_rs.St w0 w g A c b [(w.heap.size, 71, #[.pointer (some ⟨g, 0, none⟩)]), (w.heap.size + 1, 42, #[.int .i64 0, .slice none 0 0, .int .i64 0, .bool false, .slice none 0 0, .slice none 0 0, .int .i64 0, .int .i64 0, .string (⟨#[]⟩ : ByteArray), .slice none 0 0, .int .i64 0, .int .i64 0, .slice none 0 0])] g3 42 #[.int .i64 0, .slice none 0 0, .int .i64 0, .bool false, .slice none 0 0, .slice none 0 0, .int .i64 0, .int .i64 0, .string (⟨#[]⟩ : ByteArray), .slice none 0 0, .int .i64 0, .int .i64 0, .slice none 0 0] p (lv + 1) e1 W2 := by
      have h1 := HG.out
      have h2 := HS1.out
      refine ⟨by rw [hW2]; exact code_rd.move HI1.out (below_alloc (Below.refl _ _) _), by rw [hW2]; exact keep_alloc HKB.out _, fun r hr => ?_, by rw [hW2, hg3]; exact blk_new _ _, by omega, h1⟩
      rcases List.mem_cons.1 hr with rfl | hr
      · exact ⟨by show w.heap.size ≠ g3; omega, by show w.heap.size ≠ g; omega, by rw [hW2]; exact blk_alloc K0.out _⟩
      · obtain rfl := List.mem_singleton.1 hr
        exact ⟨by show w.heap.size + 1 ≠ g3; omega, by show w.heap.size + 1 ≠ g; omega, by rw [hW2]; exact blk_alloc K2.out _⟩
    have HN : Aside0 (w.heap.size + 2 ≤ g3 ∧ g < w.heap.size) := ⟨by have := HS1.out; omega, HG.out⟩
    have S2 := Aside0.mk s2
    have x0 := s2.rc List.mem_cons_self 0 rfl
    clear hW2 hg3 s2 HI1 K0 K2 HS1 HKB HI
    go_upto_region 6 with (go_at_call 70; (with_reducible refine (code_rd.one_calls w0 _ g A c b p (lv + 1) e1 K p1 e2 HL.out.2 S2.out.rd HQ.out).mono ?_); rintro y w2 ⟨rfl, hi2, hk2⟩; (have s3 := S2.out.call hi2 hk2); (have a3 := s3.d0 0 rfl); (have b3 := s3.fd 0); (have S3 := Aside0.mk s3); clear hi2 hk2 s3)
    obtain ⟨W3, hW3⟩ : ∃ W3 : World, W3 = w2.setCell ⟨g3, 0, none⟩ (.int .i64 K) := ⟨_, rfl⟩
    rw [← hW3]
    have T3 : Aside0 (code_rs.St w0 w g A c b [(w.heap.size, 71, #[.pointer (some ⟨g, 0, none⟩)]), (w.heap.size + 1, 42, #[.int .i64 0, .slice none 0 0, .int .i64 0, .bool false, .slice none 0 0, .slice none 0 0, .int .i64 0, .int .i64 0, .string (⟨#[]⟩ : ByteArray), .slice none 0 0, .int .i64 0, .int .i64 0, .slice none 0 0])] g3 42 #[.int .i64 K, .slice none 0 0, .int .i64 0, .bool false, .slice none 0 0, .slice none 0 0, .int .i64 0, .int .i64 0, .string (⟨#[]⟩ : ByteArray), .slice none 0 0, .int .i64 0, .int .i64 0, .slice none 0 0] p1 (lv + 1) e2 W3) := ⟨by rw [hW3]; exact S3.out.put 0 _ rfl⟩
    clear hW3 a3 b3 x0 S2 S3
    have x0 := T3.out.rc List.mem_cons_self 0 rfl
    have x3 := T3.out.g0 3 rfl
    have xk := T3.out.d0 0 rfl
    obtain ⟨cb, hcb⟩ : ∃ cb, cb = decide (e2 = 0 ∧ (K < 1 ∨ K > 3)) := ⟨_, rfl⟩
    have HCB := Aside0.mk hcb
    clear hcb
    go_cut [26] from 12 to 26 (fun v26 wc => v26 = .bool cb ∧ wc = W3)
    case first =>
      by_cases c1 : e2 = 0
      · have b1 : (e2 == 0) = true := by simpa using c1
        by_cases c2 : K < 1
        · have b2 : decide (K < 1) = true := decide_eq_true c2
          have hv : decide (e2 = 0 ∧ (K < 1 ∨ K > 3)) = true := decide_eq_true ⟨c1, .inl c2⟩
          have HV := Aside0.mk hv
          clear hv c1 c2
          go_wp2
          go_meet
          case rel => exact ⟨congrArg Value.bool (HCB.out.trans HV.out).symm, rfl⟩
        · have b2 : decide (K < 1) = false := decide_eq_false c2
          by_cases c3 : K > 3
          · have b3 : decide (3 < K) = true := decide_eq_true c3
            have hv : decide (e2 = 0 ∧ (K < 1 ∨ K > 3)) = true := decide_eq_true ⟨c1, .inr c3⟩
            have HV := Aside0.mk hv
            clear hv c1 c2 c3
            go_wp2
            go_meet
            case rel => exact ⟨congrArg Value.bool (HCB.out.trans HV.out).symm, rfl⟩
          · have b3 : decide (3 < K) = false := decide_eq_false c3
            have hv : decide (e2 = 0 ∧ (K < 1 ∨ K > 3)) = false := decide_eq_false (fun h => h.2.elim c2 c3)
            have HV := Aside0.mk hv
            clear hv c1 c2 c3
            go_wp2
            go_meet
            case rel => exact ⟨congrArg Value.bool (HCB.out.trans HV.out).symm, rfl⟩
      · have b1 : (e2 == 0) = false := by simpa using c1
        have hv : decide (e2 = 0 ∧ (K < 1 ∨ K > 3)) = false := decide_eq_false (fun h => c1 h.1)
        have HV := Aside0.mk hv
        clear hv c1
        go_wp2
        go_meet
        case rel => exact ⟨congrArg Value.bool (HCB.out.trans HV.out).symm, rfl⟩
    case rest =>
    obtain ⟨rfl, rfl⟩ := hcut
    clear x0 x3 xk
    obtain ⟨W4, rfl⟩ : ∃ W4 : World, W4 = wc := ⟨_, rfl⟩
    have x0 := T3.out.rc List.mem_cons_self 0 rfl
    have x3 := T3.out.g0 3 rfl
    have f3 := T3.out.f0 3
    go_upto_if 26 with (fail)
    go_cut [] from 27 to 29 (fun wd => Aside0 (code_rs.St w0 w g A c b [(w.heap.size, 71, #[.pointer (some ⟨g, 0, none⟩)]), (w.heap.size + 1, 42, #[.int .i64 0, .slice none 0 0, .int .i64 0, .bool false, .slice none 0 0, .slice none 0 0, .int .i64 0, .int .i64 0, .string (⟨#[]⟩ : ByteArray), .slice none 0 0, .int .i64 0, .int .i64 0, .slice none 0 0])] g3 42 #[.int .i64 K, .slice none 0 0, .int .i64 0, .bool false, .slice none 0 0, .slice none 0 0, .int .i64 0, .int .i64 0, .string (⟨#[]⟩ : ByteArray), .slice none 0 0, .int .i64 0, .int .i64 0, .slice none 0 0] p1 (lv + 1) (code_rs.kind K e2) wd))
    case first =>
      cases cb with
      | true =>
        have hk := of_decide_eq_true HCB.out.symm
        have hkd : code_rs.kind K e2 = 23 := if_pos hk
        have HK := Aside0.mk hkd
        clear hk hkd
        go_wp2
        go_meet
        case rel => exact ⟨by rw [HK.out]; exact T3.out.set3 _⟩
      | false =>
        have hk := of_decide_eq_false HCB.out.symm
        have hkd : code_rs.kind K e2 = e2 := if_neg hk
        have HK := Aside0.mk hkd
        clear hk hkd
        go_wp2
        go_meet
        case rel => exact ⟨by rw [HK.out]; exact T3.out⟩
    case rest =>
    have S4 := hcut
    clear x0 x3 f3 T3
    obtain ⟨W5, rfl⟩ : ∃ W5 : World, W5 = wc := ⟨_, rfl⟩
    have x0 := S4.out.rc List.mem_cons_self 0 rfl
    have xk := S4.out.d0 0 rfl
    have h := H2.out
    clear H2
    by_cases hk1 : K = 1
    · rw [if_pos hk1] at h
      have d1 : (K == 1) = true := by simpa using hk1
      obtain ⟨⟨s, p5, e5⟩, h5, h⟩ := Option.bind_eq_some_iff.mp h
      have h9 := Option.some.inj h
      simp only [Prod.mk.injEq] at h9
      obtain ⟨rfl, rfl, rfl⟩ := h9
      have H5 := Aside0.mk h5
      clear h h5 hk1
      go_wp2_with (first | (refine code_rd.put_row (w0 := wb) w.heap.size rfl 42 (.tmp 2) (.tmp 37) rfl (w.heap.size + 1) #[.int .i64 K, .slice none 0 0, .int .i64 s.f0, .bool s.f1, .slice A4 s.f2.length c4, .slice A5 s.f3.length c5, .int .i64 s.f4.f0, .int .i64 s.f4.f1, .string s.f4.f2, .slice A9 s.f4.f3.length c9, .int .i64 s.f4.f4, .int .i64 s.f4.f5, .slice none 0 0] rfl rfl 42 _ (SB.out.row _ (List.mem_cons_of_mem _ (List.mem_singleton.2 rfl))).2.2 (by kernel_rfl) rfl (by simp [Value.oneCell']) (Below.refl _ _) (by omega) ?_; intro WD hgD hoD hzD hbD; (have HGD := Aside0.mk hgD); (have HOD := Aside0.mk hoD); (have HBD := Aside0.mk hbD); clear hgD hoD hzD hbD) | (refine wpList_load_row rfl 42 (.tmp 3) rfl g3 rfl 42 _ (0, 0) _ SB.out.loc Try.underlying42 rfl (by kernel_rfl) ?_) | (refine code_rs.put_part (w0 := wa) g3 rfl 39 (.tmp 36) (.tmp 35) rfl g3 2 #[.int .i64 s.f0, .bool s.f1, .slice A4 s.f2.length c4, .slice A5 s.f3.length c5, .int .i64 s.f4.f0, .int .i64 s.f4.f1, .string s.f4.f2, .slice A9 s.f4.f3.length c9, .int .i64 s.f4.f4, .int .i64 s.f4.f5] rfl rfl 42 _ #[.int .i64 K, .slice none 0 0, .int .i64 s.f0, .bool s.f1, .slice A4 s.f2.length c4, .slice A5 s.f3.length c5, .int .i64 s.f4.f0, .int .i64 s.f4.f1, .string s.f4.f2, .slice A9 s.f4.f3.length c9, .int .i64 s.f4.f4, .int .i64 s.f4.f5, .slice none 0 0] SA.out.loc (by kernel_rfl) (by simp) (by simp [Value.oneCell']) rfl (Below.refl _ _) (Nat.le_refl _) ?_; intro wb hc ho hz hb; (have SB := Aside0.mk (SA.out.part hc ho hz hb)); (have FB := Aside0.mk (code_rs.FKo FA.out ho (by omega) (by omega))); clear hc ho hz hb) | (go_at_call 79; (with_reducible refine (code_rs.step_calls k w0 _ g A c b p1 (lv + 1) (code_rs.kind K e2) s p5 e5 (by have := HL.out.1; omega) S4.out.rd H5.out).mono ?_); rintro y wa ⟨A4, c4, A5, c5, A9, c9, rfl, hf, hi, hk⟩; (have SA := Aside0.mk (S4.out.call hi hk)); (have FA := Aside0.mk (code_rs.FKm (B' := g3 + 1) hf (blk_lt S4.out.loc))); clear hf hi hk))
      obtain ⟨B4, n4, B5, n5, B9, n9, he, l4, f4, l5, f5, l9, f9⟩ := k39_openF (code_rs.FKo FB.out HOD.out (by have := HN.out; omega) HBD.out.size)
      have he2 : ([.int .i64 s.f0, .bool s.f1, .slice A4 s.f2.length c4, .slice A5 s.f3.length c5, .int .i64 s.f4.f0, .int .i64 s.f4.f1, .string s.f4.f2, .slice A9 s.f4.f3.length c9, .int .i64 s.f4.f4, .int .i64 s.f4.f5] : List Value) = [.int .i64 s.f0, .bool s.f1, .slice B4 s.f2.length n4, .slice B5 s.f3.length n5, .int .i64 s.f4.f0, .int .i64 s.f4.f1, .string s.f4.f2, .slice B9 s.f4.f3.length n9, .int .i64 s.f4.f4, .int .i64 s.f4.f5] := he
      simp only [List.cons.injEq, Value.slice.injEq, and_true, true_and] at he2
      obtain ⟨⟨rfl, rfl⟩, ⟨rfl, rfl⟩, rfl, rfl⟩ := he2
      have hfk : Kd.FK k42 WD (fun q => w.heap.size + 2 ≤ q) ⟨K, [], s, []⟩ [.int .i64 K, .slice none 0 0, .int .i64 s.f0, .bool s.f1, .slice A4 s.f2.length c4, .slice A5 s.f3.length c5, .int .i64 s.f4.f0, .int .i64 s.f4.f1, .string s.f4.f2, .slice A9 s.f4.f3.length c9, .int .i64 s.f4.f4, .int .i64 s.f4.f5, .slice none 0 0] := k42_mkF WD _ ⟨K, [], s, []⟩ (A1 := none) (c1 := 0) (A12 := none) (c12 := 0) (Nat.le_refl _) (Kd.F_nil _ _ _) l4 (code_rs.Fm f4 (by have := HN.out; omega)) l5 (code_rs.Fm f5 (by have := HN.out; omega)) l9 (code_rs.Fm f9 (by have := HN.out; omega)) (Nat.le_refl _) (Kd.F_nil _ _ _)
      have hrd : code_rd.Rd w0 WD g A c b p5 (lv + 1) e5 := code_rd.other SB.out.rd (HOD.out g (by have := HN.out; omega)) (HBD.out.mono (by have := HGE.out; have := HN.out; omega))
      have hkp : KeepBut w WD g none := ⟨by have := SB.out.keep.1; have := HBD.out.size; omega, fun i hi hg hr => (HOD.out i (by omega)).trans (SB.out.keep.2 i hi hg hr)⟩
      have hf9 : code_rs.SFin w0 w g A c b 0 ⟨K, [], s, []⟩ p5 lv e5 [.int .i64 K, .slice none 0 0, .int .i64 s.f0, .bool s.f1, .slice A4 s.f2.length c4, .slice A5 s.f3.length c5, .int .i64 s.f4.f0, .int .i64 s.f4.f1, .string s.f4.f2, .slice A9 s.f4.f3.length c9, .int .i64 s.f4.f4, .int .i64 s.f4.f5, .slice none 0 0] WD := ⟨hrd, hkp, (HOD.out w.heap.size (by omega)).trans (SB.out.row _ List.mem_cons_self).2.2, HGD.out, hfk⟩
      have z0 : WD.cell? ⟨w.heap.size, 0, none⟩ = some (.pointer (some ⟨g, 0, none⟩)) := (blk_cell hf9.2.2.1 0).trans rfl
      have z2 : WD.cell? ⟨g, 2, none⟩ = some (.int .i64 (lv + 1)) := (blk_cell hf9.1.blk 2).trans rfl
      have y2 : WD.frozen? ⟨g, 2, none⟩ = false := blk_frozen hf9.1.blk 2
      refine leaves_cons (f := 78) (args := #[.pointer (some ⟨w.heap.size, 0, none⟩)]) (by simp [Act.put]) (by simp [go_sem]) ?_
      refine (code_rs.undo g w.heap.size lv HLV.out _ _ z0 z2 y2).mono ?_
      rintro e u' w'' ⟨rfl, rfl, rfl⟩
      refine ⟨_, results_cell_row rfl _ _ (w.heap.size + 1) 42 _ (0, 0) _ rfl (blk_far (p := ⟨g, 2, none⟩) hf9.2.2.2.1 (show w.heap.size + 1 ≠ g by have := HG.out; omega) _) Try.underlying42 rfl (by kernel_rfl), ?_⟩
      exact FIN.out WD ⟨K, [], s, []⟩ p5 e5 [.int .i64 K, .slice none 0 0, .int .i64 s.f0, .bool s.f1, .slice A4 s.f2.length c4, .slice A5 s.f3.length c5, .int .i64 s.f4.f0, .int .i64 s.f4.f1, .string s.f4.f2, .slice A9 s.f4.f3.length c9, .int .i64 s.f4.f4, .int .i64 s.f4.f5, .slice none 0 0] hf9 _ rfl
    · rw [if_neg hk1] at h
      have d1 : (K == 1) = false := by simpa using hk1
      obtain ⟨⟨l, p6, e6⟩, h6, h⟩ := Option.bind_eq_some_iff.mp h
      obtain ⟨⟨m, p7, e7⟩, h7, h⟩ := Option.bind_eq_some_iff.mp h
      have h9 := Option.some.inj h
      simp only [Prod.mk.injEq] at h9
      obtain ⟨rfl, rfl, rfl⟩ := h9
      have H7 := Aside0.mk h7
      clear h h7 hk1
      by_cases hk3 : K = 3
      · rw [if_pos hk3] at h6
        have d3 : (K == 3) = true := by simpa using hk3
        have H6 := Aside0.mk h6
        clear h6 hk3
        go_upto_region 14 with (go_at_call 80; (with_reducible refine (code_rr.many_callsI (code_rr.index k b) w0 g A c b (lv + 1) (code_rs.index_I k w0 g A c b (lv + 1)) k p1 (code_rs.kind K e2) l p6 e6 _ S4.out.rd H6.out).mono ?_); rintro y w6 ⟨A1, c1, rfl, hl, hf, hi, hk⟩; (have s := S4.out.call hi hk); (have x4 := s.d0 1 rfl); (have f4 := s.fd 1); (have L6 := Aside0.mk hl); (have S5 := Aside0.mk s); (have F5 := Aside0.mk (code_rs.Fm (B' := g3 + 1) hf (blk_lt S4.out.loc))); clear hl hf hi hk s)
        clear x0 xk
        obtain ⟨W6, hW6⟩ : ∃ W : World, W = w6.setCell ⟨g3, 1, none⟩ (.slice A1 l.length c1) := ⟨_, rfl⟩
        rw [← hW6]
        have S6 : Aside0 (code_rs.St w0 w g A c b [(w.heap.size, 71, #[.pointer (some ⟨g, 0, none⟩)]), (w.heap.size + 1, 42, #[.int .i64 0, .slice none 0 0, .int .i64 0, .bool false, .slice none 0 0, .slice none 0 0, .int .i64 0, .int .i64 0, .string (⟨#[]⟩ : ByteArray), .slice none 0 0, .int .i64 0, .int .i64 0, .slice none 0 0])] g3 42 #[.int .i64 K, .slice A1 l.length c1, .int .i64 0, .bool false, .slice none 0 0, .slice none 0 0, .int .i64 0, .int .i64 0, .string (⟨#[]⟩ : ByteArray), .slice none 0 0, .int .i64 0, .int .i64 0, .slice none 0 0] p6 (lv + 1) e6 W6) := ⟨by rw [hW6]; exact S5.out.put 1 _ rfl⟩
        have F6 : Aside0 (Kd.F (Kd.int .i64) W6 (fun q => g3 + 1 ≤ q) A1 l.length l) := ⟨by rw [hW6]; exact code_rs.Fs F5.out (by omega) _⟩
        have x0 := S6.out.rc List.mem_cons_self 0 rfl
        clear hW6 x4 f4 S5 F5 S4
        go_wp2_with (first | (refine code_rd.put_row (w0 := wa.setCell ⟨g3, 12, none⟩ (.slice A12 m.length c12)) w.heap.size rfl 42 (.tmp 2) (.tmp 50) rfl (w.heap.size + 1) #[.int .i64 K, .slice A1 l.length c1, .int .i64 0, .bool false, .slice none 0 0, .slice none 0 0, .int .i64 0, .int .i64 0, .string (⟨#[]⟩ : ByteArray), .slice none 0 0, .int .i64 0, .int .i64 0, .slice A12 m.length c12] rfl rfl 42 _ (SB.out.row _ (List.mem_cons_of_mem _ (List.mem_singleton.2 rfl))).2.2 (by kernel_rfl) rfl (by simp [Value.oneCell']) (Below.refl _ _) (by omega) ?_; intro WD hgD hoD hzD hbD; (have HGD := Aside0.mk hgD); (have HOD := Aside0.mk hoD); (have HBD := Aside0.mk hbD); clear hgD hoD hzD hbD) | (refine wpList_load_row rfl 42 (.tmp 3) rfl g3 rfl 42 _ (0, 0) _ SB.out.loc Try.underlying42 rfl (by kernel_rfl) ?_) | (go_at_call 82; (with_reducible refine (code_rr.many_callsD (code_rs.deriv k b (lv + 1)) w0 g A c b (lv + 1) (fun p e x p' e' W hR h => HIH.out w0 g A c b (lv + 1) p e x p' e' W hR h) k p6 e6 m p7 e7 _ S6.out.rd H7.out).mono ?_); rintro y wa ⟨A12, c12, rfl, hl, hf, hi, hk⟩; (have s := S6.out.call hi hk); (have x4 := s.d0 12 rfl); (have f4 := s.fd 12); (have SB := Aside0.mk (s.put 12 (.slice A12 m.length c12) rfl)); (have LM := Aside0.mk hl); (have FM := Aside0.mk (code_rs.Fs (i := g3) (j := 12) (code_rs.Fm (B' := g3 + 1) hf (blk_lt S6.out.loc)) (by omega) (.slice A12 m.length c12))); (have FL := Aside0.mk (code_rs.Fs (i := g3) (j := 12) (code_rs.Fk F6.out hk (by have := HN.out; omega)) (by omega) (.slice A12 m.length c12))); clear hl hf hi hk s))
        have f1 := code_rs.Fo FL.out HOD.out (by have := HN.out; omega)
        have f12 := code_rs.Fo FM.out HOD.out (by have := HN.out; omega)
        have hfk : Kd.FK k42 WD (fun q => w.heap.size + 2 ≤ q) ⟨K, l, ⟨0, false, [], [], ⟨0, 0, ⟨#[]⟩, [], 0, 0⟩⟩, m⟩ [.int .i64 K, .slice A1 l.length c1, .int .i64 0, .bool false, .slice none 0 0, .slice none 0 0, .int .i64 0, .int .i64 0, .string (⟨#[]⟩ : ByteArray), .slice none 0 0, .int .i64 0, .int .i64 0, .slice A12 m.length c12] := k42_mkF WD _ ⟨K, l, ⟨0, false, [], [], ⟨0, 0, ⟨#[]⟩, [], 0, 0⟩⟩, m⟩ (A4 := none) (c4 := 0) (A5 := none) (c5 := 0) (A9 := none) (c9 := 0) L6.out (code_rs.Fm f1 (by have := HN.out; omega)) (Nat.le_refl _) (Kd.F_nil _ _ _) (Nat.le_refl _) (Kd.F_nil _ _ _) (Nat.le_refl _) (Kd.F_nil _ _ _) LM.out (code_rs.Fm f12 (by have := HN.out; omega))
        have hrd : code_rd.Rd w0 WD g A c b p7 (lv + 1) e7 := code_rd.other SB.out.rd (HOD.out g (by have := HN.out; omega)) (HBD.out.mono (by have := HGE.out; have := HN.out; omega))
        have hkp : KeepBut w WD g none := ⟨by have := SB.out.keep.1; have := HBD.out.size; omega, fun i hi hg hr => (HOD.out i (by omega)).trans (SB.out.keep.2 i hi hg hr)⟩
        have hf9 : code_rs.SFin w0 w g A c b 0 ⟨K, l, ⟨0, false, [], [], ⟨0, 0, ⟨#[]⟩, [], 0, 0⟩⟩, m⟩ p7 lv e7 [.int .i64 K, .slice A1 l.length c1, .int .i64 0, .bool false, .slice none 0 0, .slice none 0 0, .int .i64 0, .int .i64 0, .string (⟨#[]⟩ : ByteArray), .slice none 0 0, .int .i64 0, .int .i64 0, .slice A12 m.length c12] WD := ⟨hrd, hkp, (HOD.out w.heap.size (by omega)).trans (SB.out.row _ List.mem_cons_self).2.2, HGD.out, hfk⟩
        have z0 : WD.cell? ⟨w.heap.size, 0, none⟩ = some (.pointer (some ⟨g, 0, none⟩)) := (blk_cell hf9.2.2.1 0).trans rfl
        have z2 : WD.cell? ⟨g, 2, none⟩ = some (.int .i64 (lv + 1)) := (blk_cell hf9.1.blk 2).trans rfl
        have y2 : WD.frozen? ⟨g, 2, none⟩ = false := blk_frozen hf9.1.blk 2
        refine leaves_cons (f := 78) (args := #[.pointer (some ⟨w.heap.size, 0, none⟩)]) (by simp [Act.put]) (by simp [go_sem]) ?_
        refine (code_rs.undo g w.heap.size lv HLV.out _ _ z0 z2 y2).mono ?_
        rintro e u' w'' ⟨rfl, rfl, rfl⟩
        refine ⟨_, results_cell_row rfl _ _ (w.heap.size + 1) 42 _ (0, 0) _ rfl (blk_far (p := ⟨g, 2, none⟩) hf9.2.2.2.1 (show w.heap.size + 1 ≠ g by have := HG.out; omega) _) Try.underlying42 rfl (by kernel_rfl), ?_⟩
        exact FIN.out WD ⟨K, l, ⟨0, false, [], [], ⟨0, 0, ⟨#[]⟩, [], 0, 0⟩⟩, m⟩ p7 e7 [.int .i64 K, .slice A1 l.length c1, .int .i64 0, .bool false, .slice none 0 0, .slice none 0 0, .int .i64 0, .int .i64 0, .string (⟨#[]⟩ : ByteArray), .slice none 0 0, .int .i64 0, .int .i64 0, .slice A12 m.length c12] hf9 _ rfl
      · rw [if_neg hk3] at h6
        have d3 : (K == 3) = false := by simpa using hk3
        have h9 := Option.some.inj h6
        simp only [Prod.mk.injEq] at h9
        obtain ⟨rfl, rfl, rfl⟩ := h9
        clear h6 hk3
        have F4 : Aside0 (Kd.F (Kd.int .i64) W5 (fun q => g3 + 1 ≤ q) none ([] : List Int).length []) := ⟨Kd.F_nil _ _ _⟩
        go_upto_region 14 with (fail)
        go_wp2_with (first | (refine code_rd.put_row (w0 := wa.setCell ⟨g3, 12, none⟩ (.slice A12 m.length c12)) w.heap.size rfl 42 (.tmp 2) (.tmp 50) rfl (w.heap.size + 1) #[.int .i64 K, .slice none 0 0, .int .i64 0, .bool false, .slice none 0 0, .slice none 0 0, .int .i64 0, .int .i64 0, .string (⟨#[]⟩ : ByteArray), .slice none 0 0, .int .i64 0, .int .i64 0, .slice A12 m.length c12] rfl rfl 42 _ (SB.out.row _ (List.mem_cons_of_mem _ (List.mem_singleton.2 rfl))).2.2 (by kernel_rfl) rfl (by simp [Value.oneCell']) (Below.refl _ _) (by omega) ?_; intro WD hgD hoD hzD hbD; (have HGD := Aside0.mk hgD); (have HOD := Aside0.mk hoD); (have HBD := Aside0.mk hbD); clear hgD hoD hzD hbD) | (refine wpList_load_row rfl 42 (.tmp 3) rfl g3 rfl 42 _ (0, 0) _ SB.out.loc Try.underlying42 rfl (by kernel_rfl) ?_) | (go_at_call 82; (with_reducible refine (code_rr.many_callsD (code_rs.deriv k b (lv + 1)) w0 g A c b (lv + 1) (fun p e x p' e' W hR h => HIH.out w0 g A c b (lv + 1) p e x p' e' W hR h) k p1 (code_rs.kind K e2) m p7 e7 _ S4.out.rd H7.out).mono ?_); rintro y wa ⟨A12, c12, rfl, hl, hf, hi, hk⟩; (have s := S4.out.call hi hk); (have x4 := s.d0 12 rfl); (have f4 := s.fd 12); (have SB := Aside0.mk (s.put 12 (.slice A12 m.length c12) rfl)); (have LM := Aside0.mk hl); (have FM := Aside0.mk (code_rs.Fs (i := g3) (j := 12) (code_rs.Fm (B' := g3 + 1) hf (blk_lt S4.out.loc)) (by omega) (.slice A12 m.length c12))); (have FL := Aside0.mk (code_rs.Fs (i := g3) (j := 12) (code_rs.Fk F4.out hk (by have := HN.out; omega)) (by omega) (.slice A12 m.length c12))); clear hl hf hi hk s))
        have f1 := code_rs.Fo FL.out HOD.out (by have := HN.out; omega)
        have f12 := code_rs.Fo FM.out HOD.out (by have := HN.out; omega)
        have hfk : Kd.FK k42 WD (fun q => w.heap.size + 2 ≤ q) ⟨K, [], ⟨0, false, [], [], ⟨0, 0, ⟨#[]⟩, [], 0, 0⟩⟩, m⟩ [.int .i64 K, .slice none 0 0, .int .i64 0, .bool false, .slice none 0 0, .slice none 0 0, .int .i64 0, .int .i64 0, .string (⟨#[]⟩ : ByteArray), .slice none 0 0, .int .i64 0, .int .i64 0, .slice A12 m.length c12] := k42_mkF WD _ ⟨K, [], ⟨0, false, [], [], ⟨0, 0, ⟨#[]⟩, [], 0, 0⟩⟩, m⟩ (A4 := none) (c4 := 0) (A5 := none) (c5 := 0) (A9 := none) (c9 := 0) (Nat.le_refl _) (code_rs.Fm f1 (by have := HN.out; omega)) (Nat.le_refl _) (Kd.F_nil _ _ _) (Nat.le_refl _) (Kd.F_nil _ _ _) (Nat.le_refl _) (Kd.F_nil _ _ _) LM.out (code_rs.Fm f12 (by have := HN.out; omega))
        have hrd : code_rd.Rd w0 WD g A c b p7 (lv + 1) e7 := code_rd.other SB.out.rd (HOD.out g (by have := HN.out; omega)) (HBD.out.mono (by have := HGE.out; have := HN.out; omega))
        have hkp : KeepBut w WD g none := ⟨by have := SB.out.keep.1; have := HBD.out.size; omega, fun i hi hg hr => (HOD.out i (by omega)).trans (SB.out.keep.2 i hi hg hr)⟩
        have hf9 : code_rs.SFin w0 w g A c b 0 ⟨K, [], ⟨0, false, [], [], ⟨0, 0, ⟨#[]⟩, [], 0, 0⟩⟩, m⟩ p7 lv e7 [.int .i64 K, .slice none 0 0, .int .i64 0, .bool false, .slice none 0 0, .slice none 0 0, .int .i64 0, .int .i64 0, .string (⟨#[]⟩ : ByteArray), .slice none 0 0, .int .i64 0, .int .i64 0, .slice A12 m.length c12] WD := ⟨hrd, hkp, (HOD.out w.heap.size (by omega)).trans (SB.out.row _ List.mem_cons_self).2.2, HGD.out, hfk⟩
        have z0 : WD.cell? ⟨w.heap.size, 0, none⟩ = some (.pointer (some ⟨g, 0, none⟩)) := (blk_cell hf9.2.2.1 0).trans rfl
        have z2 : WD.cell? ⟨g, 2, none⟩ = some (.int .i64 (lv + 1)) := (blk_cell hf9.1.blk 2).trans rfl
        have y2 : WD.frozen? ⟨g, 2, none⟩ = false := blk_frozen hf9.1.blk 2
        refine leaves_cons (f := 78) (args := #[.pointer (some ⟨w.heap.size, 0, none⟩)]) (by simp [Act.put]) (by simp [go_sem]) ?_
        refine (code_rs.undo g w.heap.size lv HLV.out _ _ z0 z2 y2).mono ?_
        rintro e u' w'' ⟨rfl, rfl, rfl⟩
        refine ⟨_, results_cell_row rfl _ _ (w.heap.size + 1) 42 _ (0, 0) _ rfl (blk_far (p := ⟨g, 2, none⟩) hf9.2.2.2.1 (show w.heap.size + 1 ≠ g by have := HG.out; omega) _) Try.underlying42 rfl (by kernel_rfl), ?_⟩
        exact FIN.out WD ⟨K, [], ⟨0, false, [], [], ⟨0, 0, ⟨#[]⟩, [], 0, 0⟩⟩, m⟩ p7 e7 [.int .i64 K, .slice none 0 0, .int .i64 0, .bool false, .slice none 0 0, .slice none 0 0, .int .i64 0, .int .i64 0, .string (⟨#[]⟩ : ByteArray), .slice none 0 0, .int .i64 0, .int .i64 0, .slice A12 m.length c12] hf9 _ rfl

/-! ### code_ReadTerm: function 13 (given) -/
def code_ReadTerm.start (l : List Int) (p : Int) : Int := if p < 0 ∨ (l.length : Int) < p then 13 else 0
def code_ReadTerm.f (k : Nat) (l0 : List Int) (a1 : Int) : Option (Int × Int × ByteArray × List S25 × Int × Int × Int × Int) := (code_rd.term k l0 0 a1 (code_ReadTerm.start l0 a1)).bind fun s => some (if s.2.2 = 0 then (s.1.f0, s.1.f1, s.1.f2, s.1.f3, s.1.f4, s.1.f5, s.2.1, 0) else (0, 0, ⟨#[]⟩, [], 0, 0, 0, s.2.2))
theorem code_ReadTerm.row_ {P : Program} {Q : Exit → Act → World → Prop} {ops : Array Oper} {oi : Oper} {a : Act} {w : World} {K : Act → World → Prop} (hw : Region.wanted oi (yielded ops a.tmps) = true) (hN : oi.dst = none) (ty : TypeId) (x y : Operand) (ho : oi.op = .store ty x y)
    (g : Nat) (cells : Array Value) (hx : a.eval x = .pointer (some ⟨g, 0, none⟩)) (hy : a.eval y = .agg cells)
    (t : TypeId) (old : Array Value) (hg : w.heap[g]? = some (.cells old t (0, 0))) (hi : (P.info? ty).map (·.size) = some cells.size)
    (hold : old.size = cells.size) (h1 : cells.all (·.oneCell') = true)
    (h : ∀ w2, w2.heap[g]? = some (.cells cells t (0, 0)) → (∀ k, k ≠ g → w2.heap[k]? = w.heap[k]?) → Below g w w2 → K a w2) : if Region.wanted oi (yielded ops a.tmps) = true then Oper.wp P oi a w K Q else K (a.put none undef) w := by
  rw [if_pos hw]
  refine wp_store_row ty x y ho g cells hx hy t old hg hi hold h1 ?_
  rw [hN]
  exact h _ (setRow_heap _ _ _ _ _ _ hg) (fun k hk => setRow_other _ _ _ _ hk) (code_rd.below_row (Below.refl _ _) (Nat.le_refl _) _)
set_option maxHeartbeats 4000000 in
set_option maxRecDepth 100000 in
theorem code_ReadTerm.begin_calls (A : Option Addr) (c : Nat) (l : List Int) (p : Int) (w : World) (hA : Kd.C (Kd.int .u8) w A l.length l) (hc : l.length ≤ c) :
    Calls Try.prog 36 #[.slice A l.length c, .int .i64 p] w fun e w' => ∃ g : Nat, e = .returned (.pointer (some ⟨g, 0, none⟩)) ∧ code_rd.Rd w w' g A c l p 0 (code_ReadTerm.start l p) ∧ Below w.heap.size w w' := by
  have hu := Try.underlying75
  have HA := Aside0.mk hA
  have HC := Aside0.mk hc
  clear hA hc
  by_cases c1 : p < 0
  · rw [code_ReadTerm.start, if_pos (.inl c1)]
    have c1b : decide (p < 0) = true := decide_eq_true c1
    clear c1
    go_enter Try.func36, Try.ntmps36
    go_wp2
    go_ret
    exact ⟨_, rfl, ⟨blk_new _ _, Nat.le_refl _, HA.out, HC.out, below_alloc (Below.refl _ _) _⟩, below_alloc (Below.refl _ _) _⟩
  have c1b : decide (p < 0) = false := decide_eq_false c1
  by_cases c2 : (l.length : Int) < p
  · rw [code_ReadTerm.start, if_pos (.inr c2)]
    have c2b : decide ((l.length : Int) < p) = true := decide_eq_true c2
    clear c1 c2
    go_enter Try.func36, Try.ntmps36
    go_wp2
    go_ret
    exact ⟨_, rfl, ⟨blk_new _ _, Nat.le_refl _, HA.out, HC.out, below_alloc (Below.refl _ _) _⟩, below_alloc (Below.refl _ _) _⟩
  have c2b : decide ((l.length : Int) < p) = false := decide_eq_false c2
  rw [code_ReadTerm.start, if_neg (by omega)]
  clear c1 c2
  go_enter Try.func36, Try.ntmps36
  go_wp2
  go_ret
  exact ⟨_, rfl, ⟨blk_new _ _, Nat.le_refl _, HA.out, HC.out, below_alloc (Below.refl _ _) _⟩, below_alloc (Below.refl _ _) _⟩
set_option maxHeartbeats 4000000 in
set_option maxRecDepth 100000 in
theorem code_ReadTerm.calls (k : Nat) (A : Option Addr) (c : Nat) (l : List Int) (p : Int) (r1 : Int) (r2 : Int) (r3 : ByteArray) (r4 : List (S25)) (r5 : Int) (r6 : Int) (r7 : Int) (r8 : Int) (w : World) (hA : Kd.C (Kd.int .u8) w A l.length l) (hc : l.length ≤ c) (h : code_ReadTerm.f k l p = some (r1, r2, r3, r4, r5, r6, r7, r8)) :
    Calls Try.prog 13 #[.slice A l.length c, .int .i64 p] w fun e w' => ∃ v3_ : Value, e = .returned (.tuple #[.agg #[.int .i64 r1, .int .i64 r2, .string r3, v3_, .int .i64 r5, .int .i64 r6], .int .i64 r7, .int .i64 r8]) ∧ Kd.V k25 25 w' w.heap.size (fun k_ => (w.heap.size ≤ k_)) v3_ r4 ∧ Below w.heap.size w w' := by
  have hu := Try.underlying75
  have hu2 := Try.underlying25
  obtain ⟨⟨x, p2, e2⟩, hs, h⟩ := Option.bind_eq_some_iff.mp h
  have HA := Aside0.mk hA
  have HC := Aside0.mk hc
  have HS := Aside0.mk hs
  dsimp only at h
  clear hA hc hs
  by_cases he : e2 = 0
  · subst he
    rw [if_pos rfl] at h
    have e := Option.some.inj h
    simp only [Prod.mk.injEq] at e
    obtain ⟨rfl, rfl, rfl, rfl, rfl, rfl, rfl, rfl⟩ := e
    clear h
    go_enter Try.func13, Try.ntmps13
    obtain ⟨W1, hW1⟩ : ∃ W1 : World, W1 = w.alloc (.cells #[.int .i64 0, .int .i64 0, .string (⟨#[]⟩ : ByteArray), .slice none 0 0, .int .i64 0, .int .i64 0] 25) := ⟨_, rfl⟩
    have hb1 : Below w.heap.size w W1 := by rw [hW1]; exact below_alloc (Below.refl _ _) _
    have hx1 : W1.heap[w.heap.size]? = some (.cells #[.int .i64 0, .int .i64 0, .string (⟨#[]⟩ : ByteArray), .slice none 0 0, .int .i64 0, .int .i64 0] 25 (0, 0)) := by rw [hW1]; exact blk_new _ _
    have hs1 : W1.heap.size = w.heap.size + 1 := by rw [hW1]; simp
    have HA1 := Aside0.mk (Kd.C_below HA.out hb1)
    have HB1 := Aside0.mk hb1
    have HX1 := Aside0.mk hx1
    have HZ1 := Aside0.mk hs1
    clear hb1 hx1 hs1
    go_upto_region 5 with (first | (go_at_call 37; (with_reducible refine (code_rd.term_calls k W1 g A c l 0 p _ x p2 0 _ HI2.out HS.out).mono ?_); rintro y w3 ⟨A3, c3, rfl, hl3, hf3, hi3, hk3⟩; (have x3 : ∀ o, (w3.alloc o).cell? ⟨g, 3, none⟩ = some (.int .i64 0) := fun o => (blk_cell (blk_alloc hi3.blk o) 3).trans rfl); (have HI3 := Aside0.mk hi3); (have HK3 := Aside0.mk hk3); (have HL3 := Aside0.mk hl3); (have HF3 := Aside0.mk hf3); clear hi3 hk3 hl3 hf3) | (rw [← hW1]; go_at_call 36; (with_reducible refine (code_ReadTerm.begin_calls A c l p _ HA1.out HC.out).mono ?_); rintro y w2 ⟨g, rfl, hi2, hb2⟩; (have HI2 := Aside0.mk hi2); (have HB2 := Aside0.mk hb2); clear hi2 hb2))
    clear hW1 x3
    have hgw : w.heap.size ≠ g := by have := HI2.out.ge; have := HZ1.out; omega
    have hx3 : w3.heap[w.heap.size]? = some (.cells #[.int .i64 0, .int .i64 0, .string (⟨#[]⟩ : ByteArray), .slice none 0 0, .int .i64 0, .int .i64 0] 25 (0, 0)) := code_rd.kb HK3.out ((HB2.out.block _ (by have := HZ1.out; omega)).trans HX1.out) hgw
    have hb3 : Below w.heap.size w w3 := HB1.out.trans (HI3.out.bel.mono (by have := HZ1.out; omega))
    obtain ⟨W4, hW4⟩ : ∃ W4 : World, W4 = w3.alloc (.cells #[.int .i64 x.f0, .int .i64 x.f1, .string x.f2, .slice A3 x.f3.length c3, .int .i64 x.f4, .int .i64 x.f5] 25) := ⟨_, rfl⟩
    have hb4 : Below w3.heap.size w3 W4 := by rw [hW4]; exact below_alloc (Below.refl _ _) _
    have hx4 : W4.heap[w3.heap.size]? = some (.cells #[.int .i64 x.f0, .int .i64 x.f1, .string x.f2, .slice A3 x.f3.length c3, .int .i64 x.f4, .int .i64 x.f5] 25 (0, 0)) := by rw [hW4]; exact blk_new _ _
    have hy4 : W4.heap[w.heap.size]? = some (.cells #[.int .i64 0, .int .i64 0, .string (⟨#[]⟩ : ByteArray), .slice none 0 0, .int .i64 0, .int .i64 0] 25 (0, 0)) := blk_below hx3 hb4
    have hi4 : W4.heap[g]? = some (.cells #[.slice A l.length c, .int .i64 p2, .int .i64 0, .int .i64 0] 75 (0, 0)) := blk_below HI3.out.blk hb4
    rw [← hW4]
    have hf4 : Kd.F k25 W4 (fun q => w2.heap.size ≤ q) A3 x.f3.length x.f3 := Kd.F_below HF3.out hb4
    have hq4 : w.heap.size + 1 ≤ w2.heap.size := by have := HB2.out.size; have := HZ1.out; omega
    have HY4 := Aside0.mk hy4
    have HX4 := Aside0.mk hx4
    have HI4 := Aside0.mk hi4
    have HGW := Aside0.mk hgw
    have HWW : Aside0 (w3.heap.size ≠ w.heap.size) := ⟨by have := blk_lt hx3; omega⟩
    have HF4 := Aside0.mk hf4
    have HQ4 := Aside0.mk hq4
    have HB4 := Aside0.mk (below_step hb3 hb4)
    have z1 : W4.cell? ⟨g, 1, none⟩ = some (.int .i64 p2) := (blk_cell hi4 1).trans rfl
    have z3 : W4.cell? ⟨g, 3, none⟩ = some (.int .i64 0) := (blk_cell hi4 3).trans rfl
    have y0 : W4.cell? ⟨w3.heap.size, 0, none⟩ = some (.int .i64 x.f0) := (blk_cell hx4 0).trans rfl
    have y1 : W4.cell? ⟨w3.heap.size, 1, none⟩ = some (.int .i64 x.f1) := (blk_cell hx4 1).trans rfl
    have y2 : W4.cell? ⟨w3.heap.size, 2, none⟩ = some (.string x.f2) := (blk_cell hx4 2).trans rfl
    have y3 : W4.cell? ⟨w3.heap.size, 3, none⟩ = some (.slice A3 x.f3.length c3) := (blk_cell hx4 3).trans rfl
    have y4 : W4.cell? ⟨w3.heap.size, 4, none⟩ = some (.int .i64 x.f4) := (blk_cell hx4 4).trans rfl
    have y5 : W4.cell? ⟨w3.heap.size, 5, none⟩ = some (.int .i64 x.f5) := (blk_cell hx4 5).trans rfl
    clear hx3 hb3 hb4 hx4 hy4 hi4 hf4 hq4 hgw HF3 HB1 HX1 HZ1 HA1 HI2 HB2 HI3 HK3 hW4
    refine start_ (n := 8) (S := fun w' => w'.cell? ⟨w3.heap.size, 0, none⟩ = some (.int .i64 x.f0) ∧ w'.cell? ⟨w3.heap.size, 1, none⟩ = some (.int .i64 x.f1) ∧ w'.cell? ⟨w3.heap.size, 2, none⟩ = some (.string x.f2) ∧ w'.cell? ⟨w3.heap.size, 3, none⟩ = some (.slice A3 x.f3.length c3) ∧ w'.cell? ⟨w3.heap.size, 4, none⟩ = some (.int .i64 x.f4) ∧ w'.cell? ⟨w3.heap.size, 5, none⟩ = some (.int .i64 x.f5) ∧ w'.cell? ⟨g, 1, none⟩ = some (.int .i64 p2)) (ds := []) (bl 8 0) (by kernel_rfl) rfl rfl ⟨y0, y1, y2, y3, y4, y5, z1⟩ (fun hHeld => ?_)
    refine take_ (i := 0) (N := some 24) (v := ?_) (a' := ?_) (bl 8 1) rfl rfl (by kernel_rfl) (fun _ _ _ h => h) (Or.inl ⟨by rfl, ?_⟩) hHeld ?_ ?_
    rotate_left
    · rintro w' ⟨s0, s1, s2, s3, s4, s5, s6⟩
      go_simp
      with_reducible rfl
    rotate_left
    · simp only [Act.put, sa_, sz_, ss_, i64_w, i32_w]; rfl
    refine pure_ (i := 1) (N := some 25) (v := ?_) (a' := ?_) (bl 8 3) rfl rfl (by kernel_rfl) (fun _ _ _ h => h) (Or.inl ⟨by rfl, ?_⟩) ?_ ?_
    rotate_left
    · intro w'; go_simp; with_reducible rfl
    rotate_left
    · simp only [Act.put, sa_, sz_, ss_, i64_w, i32_w]; rfl
    refine pure_ (i := 2) (N := some 26) (v := ?_) (a' := ?_) (bl 8 7) rfl rfl (by kernel_rfl) (fun _ _ _ h => h) (Or.inl ⟨by rfl, ?_⟩) ?_ ?_
    rotate_left
    · intro w'; go_simp; with_reducible rfl
    rotate_left
    · simp only [Act.put, sa_, sz_, ss_, i64_w, i32_w]; rfl
    refine pure_ (i := 3) (N := some 27) (v := ?_) (a' := ?_) (bl 8 15) rfl rfl (by kernel_rfl) (fun _ _ _ h => h) (Or.inl ⟨by rfl, ?_⟩) ?_ ?_
    rotate_left
    · intro w'; go_simp; with_reducible rfl
    rotate_left
    · simp only [Act.put, sa_, sz_, ss_, i64_w, i32_w]; rfl
    refine take_ (i := 4) (N := some 28) (v := ?_) (a' := ?_) (bl 8 31) rfl rfl (by kernel_rfl) (fun _ _ _ h => h) (Or.inl ⟨by rfl, ?_⟩) hHeld ?_ ?_
    rotate_left
    · rintro w' ⟨s0, s1, s2, s3, s4, s5, s6⟩
      go_simp
      with_reducible rfl
    rotate_left
    · simp only [Act.put, sa_, sz_, ss_, i64_w, i32_w]; rfl
    refine one_ (i := 5) (N := none) (bl 8 63) rfl rfl (by kernel_rfl) (by decide) (fun K hK => ?_)
    refine code_ReadTerm.row_ (by rfl) rfl 25 (.tmp 4) (.tmp 24) rfl w.heap.size #[.int .i64 x.f0, .int .i64 x.f1, .string x.f2, .slice A3 x.f3.length c3, .int .i64 x.f4, .int .i64 x.f5] rfl rfl 25 _ HY4.out (by kernel_rfl) rfl (by simp [Value.oneCell']) ?_
    intro W5 hg5 ho5 hb5
    have HG5 := Aside0.mk hg5
    have HO5 : Aside0 (∀ k, k ≠ w.heap.size → W5.heap[k]? = W4.heap[k]?) := ⟨ho5⟩
    have HB5 : Aside0 (Below w.heap.size W4 W5) := ⟨(below_drew (Below.refl _ _)).trans hb5⟩
    have vi5 : W5.heap[g]? = some (.cells #[.slice A l.length c, .int .i64 p2, .int .i64 0, .int .i64 0] 75 (0, 0)) := (ho5 g (fun e => HGW.out e.symm)).trans HI4.out
    have vx5 : W5.heap[w3.heap.size]? = some (.cells #[.int .i64 x.f0, .int .i64 x.f1, .string x.f2, .slice A3 x.f3.length c3, .int .i64 x.f4, .int .i64 x.f5] 25 (0, 0)) := (ho5 _ HWW.out).trans HX4.out
    refine hK.out _ _ ⟨(blk_cell vx5 0).trans rfl, (blk_cell vx5 1).trans rfl, (blk_cell vx5 2).trans rfl, (blk_cell vx5 3).trans rfl, (blk_cell vx5 4).trans rfl, (blk_cell vx5 5).trans rfl, (blk_cell vi5 1).trans rfl⟩ (fun hHeld => ?_)
    clear hK K hg5 ho5 hb5 vi5 vx5
    refine pure_ (i := 6) (N := some 5) (v := ?_) (a' := ?_) (bl 8 127) rfl rfl (by kernel_rfl) (fun _ _ _ h => h) (Or.inl ⟨by rfl, ?_⟩) ?_ ?_
    rotate_left
    · intro w'; go_simp; with_reducible rfl
    rotate_left
    · simp only [Act.put, sa_, sz_, ss_, i64_w, i32_w]; rfl
    refine pure_ (i := 7) (N := some 6) (v := ?_) (a' := ?_) (bl 8 255) rfl rfl (by kernel_rfl) (fun _ _ _ h => h) (Or.inl ⟨by rfl, ?_⟩) ?_ ?_
    rotate_left
    · intro w'; go_simp; with_reducible rfl
    rotate_left
    · simp only [Act.put, sa_, sz_, ss_, i64_w, i32_w]; rfl
    refine done_ (by kernel_rfl) ?_
    go_wp2
    refine bodyPost_ret (results_ctt rfl _ _ w.heap.size 25 _ (0, 0) _ rfl HG5.out Try.underlying25 rfl (by kernel_rfl)) rfl ?_
    exact ⟨_, rfl, Kd.V_mono (Kd.V_mk HL3.out (Kd.F_step HF4.out (fun q hq _ => HO5.out q (by have := HQ4.out; have h1 : w2.heap.size ≤ q := hq; omega)))) (fun q hq => by have := HQ4.out; have h1 : w2.heap.size ≤ q := hq; omega), HB4.out.trans HB5.out⟩
  · have heb : (e2 != 0) = true := by simpa using he
    rw [if_neg he] at h
    have e := Option.some.inj h
    simp only [Prod.mk.injEq] at e
    obtain ⟨rfl, rfl, rfl, rfl, rfl, rfl, rfl, rfl⟩ := e
    clear h he
    go_enter Try.func13, Try.ntmps13
    obtain ⟨W1, hW1⟩ : ∃ W1 : World, W1 = w.alloc (.cells #[.int .i64 0, .int .i64 0, .string (⟨#[]⟩ : ByteArray), .slice none 0 0, .int .i64 0, .int .i64 0] 25) := ⟨_, rfl⟩
    have hb1 : Below w.heap.size w W1 := by rw [hW1]; exact below_alloc (Below.refl _ _) _
    have hx1 : W1.heap[w.heap.size]? = some (.cells #[.int .i64 0, .int .i64 0, .string (⟨#[]⟩ : ByteArray), .slice none 0 0, .int .i64 0, .int .i64 0] 25 (0, 0)) := by rw [hW1]; exact blk_new _ _
    have hs1 : W1.heap.size = w.heap.size + 1 := by rw [hW1]; simp
    have HA1 := Aside0.mk (Kd.C_below HA.out hb1)
    have HB1 := Aside0.mk hb1
    have HX1 := Aside0.mk hx1
    have HZ1 := Aside0.mk hs1
    clear hb1 hx1 hs1
    go_upto_region 4 with (first | (go_at_call 37; (with_reducible refine (code_rd.term_calls k W1 g A c l 0 p _ x p2 e2 _ HI2.out HS.out).mono ?_); rintro y w3 ⟨A3, c3, rfl, hl3, hf3, hi3, hk3⟩; (have x3 : ∀ o, (w3.alloc o).cell? ⟨g, 3, none⟩ = some (.int .i64 e2) := fun o => (blk_cell (blk_alloc hi3.blk o) 3).trans rfl); (have HI3 := Aside0.mk hi3); (have HK3 := Aside0.mk hk3); (have HL3 := Aside0.mk hl3); (have HF3 := Aside0.mk hf3); clear hi3 hk3 hl3 hf3) | (rw [← hW1]; go_at_call 36; (with_reducible refine (code_ReadTerm.begin_calls A c l p _ HA1.out HC.out).mono ?_); rintro y w2 ⟨g, rfl, hi2, hb2⟩; (have HI2 := Aside0.mk hi2); (have HB2 := Aside0.mk hb2); clear hi2 hb2))
    clear hW1 x3
    have hgw : w.heap.size ≠ g := by have := HI2.out.ge; have := HZ1.out; omega
    have hx3 : w3.heap[w.heap.size]? = some (.cells #[.int .i64 0, .int .i64 0, .string (⟨#[]⟩ : ByteArray), .slice none 0 0, .int .i64 0, .int .i64 0] 25 (0, 0)) := code_rd.kb HK3.out ((HB2.out.block _ (by have := HZ1.out; omega)).trans HX1.out) hgw
    have hb3 : Below w.heap.size w w3 := HB1.out.trans (HI3.out.bel.mono (by have := HZ1.out; omega))
    obtain ⟨W4, hW4⟩ : ∃ W4 : World, W4 = w3.alloc (.cells #[.int .i64 x.f0, .int .i64 x.f1, .string x.f2, .slice A3 x.f3.length c3, .int .i64 x.f4, .int .i64 x.f5] 25) := ⟨_, rfl⟩
    have hb4 : Below w3.heap.size w3 W4 := by rw [hW4]; exact below_alloc (Below.refl _ _) _
    have hx4 : W4.heap[w3.heap.size]? = some (.cells #[.int .i64 x.f0, .int .i64 x.f1, .string x.f2, .slice A3 x.f3.length c3, .int .i64 x.f4, .int .i64 x.f5] 25 (0, 0)) := by rw [hW4]; exact blk_new _ _
    have hy4 : W4.heap[w.heap.size]? = some (.cells #[.int .i64 0, .int .i64 0, .string (⟨#[]⟩ : ByteArray), .slice none 0 0, .int .i64 0, .int .i64 0] 25 (0, 0)) := blk_below hx3 hb4
    have hi4 : W4.heap[g]? = some (.cells #[.slice A l.length c, .int .i64 p2, .int .i64 0, .int .i64 e2] 75 (0, 0)) := blk_below HI3.out.blk hb4
    rw [← hW4]
    have hf4 : Kd.F k25 W4 (fun q => w2.heap.size ≤ q) A3 x.f3.length x.f3 := Kd.F_below HF3.out hb4
    have hq4 : w.heap.size + 1 ≤ w2.heap.size := by have := HB2.out.size; have := HZ1.out; omega
    have HY4 := Aside0.mk hy4
    have HX4 := Aside0.mk hx4
    have HI4 := Aside0.mk hi4
    have HGW := Aside0.mk hgw
    have HWW : Aside0 (w3.heap.size ≠ w.heap.size) := ⟨by have := blk_lt hx3; omega⟩
    have HF4 := Aside0.mk hf4
    have HQ4 := Aside0.mk hq4
    have HB4 := Aside0.mk (below_step hb3 hb4)
    have z1 : W4.cell? ⟨g, 1, none⟩ = some (.int .i64 p2) := (blk_cell hi4 1).trans rfl
    have z3 : W4.cell? ⟨g, 3, none⟩ = some (.int .i64 e2) := (blk_cell hi4 3).trans rfl
    clear hx3 hb3 hb4 hx4 hy4 hi4 hf4 hq4 hgw HF3 HB1 HX1 HZ1 HA1 HI2 HB2 HI3 HK3 hW4
    refine start_ (n := 8) (S := fun w' => w'.cell? ⟨g, 3, none⟩ = some (.int .i64 e2)) (ds := []) (bl 8 0) (by kernel_rfl) rfl rfl (z3) (fun hHeld => ?_)
    refine pure_ (i := 0) (N := some 19) (v := ?_) (a' := ?_) (bl 8 1) rfl rfl (by kernel_rfl) (fun _ _ _ h => h) (Or.inl ⟨by rfl, ?_⟩) ?_ ?_
    rotate_left
    · intro w'; go_simp; with_reducible rfl
    rotate_left
    · simp only [Act.put, sa_, sz_, ss_, i64_w, i32_w]; rfl
    refine pure_ (i := 1) (N := some 20) (v := ?_) (a' := ?_) (bl 8 3) rfl rfl (by kernel_rfl) (fun _ _ _ h => h) (Or.inl ⟨by rfl, ?_⟩) ?_ ?_
    rotate_left
    · intro w'; go_simp; with_reducible rfl
    rotate_left
    · simp only [Act.put, sa_, sz_, ss_, i64_w, i32_w]; rfl
    refine pure_ (i := 2) (N := some 21) (v := ?_) (a' := ?_) (bl 8 7) rfl rfl (by kernel_rfl) (fun _ _ _ h => h) (Or.inl ⟨by rfl, ?_⟩) ?_ ?_
    rotate_left
    · intro w'; go_simp; with_reducible rfl
    rotate_left
    · simp only [Act.put, sa_, sz_, ss_, i64_w, i32_w]; rfl
    refine pure_ (i := 3) (N := some 22) (v := ?_) (a' := ?_) (bl 8 15) rfl rfl (by kernel_rfl) (fun _ _ _ h => h) (Or.inl ⟨by rfl, ?_⟩) ?_ ?_
    rotate_left
    · intro w'; go_simp; with_reducible rfl
    rotate_left
    · simp only [Act.put, sa_, sz_, ss_, i64_w, i32_w]; rfl
    refine take_ (i := 4) (N := some 23) (v := ?_) (a' := ?_) (bl 8 31) rfl rfl (by kernel_rfl) (fun _ _ _ h => h) (Or.inl ⟨by rfl, ?_⟩) hHeld ?_ ?_
    rotate_left
    · rintro w' s0
      go_simp
      with_reducible rfl
    rotate_left
    · simp only [Act.put, sa_, sz_, ss_, i64_w, i32_w]; rfl
    refine one_ (i := 5) (N := none) (bl 8 63) rfl rfl (by kernel_rfl) (by decide) (fun K hK => ?_)
    refine code_ReadTerm.row_ (by rfl) rfl 25 (.tmp 4) (.tmp 19) rfl w.heap.size #[.int .i64 0, .int .i64 0, .string (⟨#[]⟩ : ByteArray), .slice none 0 0, .int .i64 0, .int .i64 0] rfl rfl 25 _ HY4.out (by kernel_rfl) rfl (by simp [Value.oneCell']) ?_
    intro W5 hg5 ho5 hb5
    have HG5 := Aside0.mk hg5
    have HO5 : Aside0 (∀ k, k ≠ w.heap.size → W5.heap[k]? = W4.heap[k]?) := ⟨ho5⟩
    have HB5 : Aside0 (Below w.heap.size W4 W5) := ⟨(below_drew (Below.refl _ _)).trans hb5⟩
    have vi5 : W5.heap[g]? = some (.cells #[.slice A l.length c, .int .i64 p2, .int .i64 0, .int .i64 e2] 75 (0, 0)) := (ho5 g (fun e => HGW.out e.symm)).trans HI4.out
    have vx5 : W5.heap[w3.heap.size]? = some (.cells #[.int .i64 x.f0, .int .i64 x.f1, .string x.f2, .slice A3 x.f3.length c3, .int .i64 x.f4, .int .i64 x.f5] 25 (0, 0)) := (ho5 _ HWW.out).trans HX4.out
    refine hK.out _ _ ((blk_cell vi5 3).trans rfl) (fun hHeld => ?_)
    clear hK K hg5 ho5 hb5 vi5 vx5
    refine pure_ (i := 6) (N := some 5) (v := ?_) (a' := ?_) (bl 8 127) rfl rfl (by kernel_rfl) (fun _ _ _ h => h) (Or.inl ⟨by rfl, ?_⟩) ?_ ?_
    rotate_left
    · intro w'; go_simp; with_reducible rfl
    rotate_left
    · simp only [Act.put, sa_, sz_, ss_, i64_w, i32_w]; rfl
    refine pure_ (i := 7) (N := some 6) (v := ?_) (a' := ?_) (bl 8 255) rfl rfl (by kernel_rfl) (fun _ _ _ h => h) (Or.inl ⟨by rfl, ?_⟩) ?_ ?_
    rotate_left
    · intro w'; go_simp; with_reducible rfl
    rotate_left
    · simp only [Act.put, sa_, sz_, ss_, i64_w, i32_w]; rfl
    refine done_ (by kernel_rfl) ?_
    go_wp2
    refine bodyPost_ret (results_ctt rfl _ _ w.heap.size 25 _ (0, 0) _ rfl HG5.out Try.underlying25 rfl (by kernel_rfl)) rfl ?_
    exact ⟨_, rfl, Kd.V_nil _ _ _ _ _, HB4.out.trans HB5.out⟩

end Go.Proofs.Ytiamcmjdoobaeaa.PCe
