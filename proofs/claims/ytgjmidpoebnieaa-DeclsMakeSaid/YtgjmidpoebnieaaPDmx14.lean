-- SLIM: a printed text of which the unused ways are cut off
-- PRINTED by print.py (a twelfth state) out of the translation. Not trusted: Lean checks it.
import Derived.Test.YtgjmidpoebnieaaPDmx0
import Derived.Test.YtgjmidpoebnieaaPDmx3
import Derived.Test.YtgjmidpoebnieaaPDmx11
namespace Go.Proofs.Ytgjmidpoebnieaa.PDm
open Go.RowKit Go.Proofs.YtgjmidpoebnieaaW.PrintWords Go.Proofs.YtgjmidpoebnieaaW.PrintLast Go.Proofs.YtgjmidpoebnieaaW.PrintMore
attribute [local go_sem] max2_int min2_int max_two min_two max_three min_three max_four min_four   -- for this text's walks alone
set_option linter.unusedVariables false
set_option linter.unusedSimpArgs false

/-! ### decls_Perm: function 10 (given) -/
/-- the declarations that the numbers name, made anew, in their order -/
def decls_Perm.rest (k : Nat) (pl : List Int) (a3 : List S24) : List Int → List S24 → Option (List S24)
  | [], out => some out
  | x :: xs, out => if 0 ≤ x ∧ x < (a3.length : Int) then (decls_walk.f k pl (rd_T24 a3 x)).bind fun y => if out.length < 1000000000 then decls_Perm.rest k pl a3 xs (out ++ [y]) else none else none
def decls_Perm.bad : Int × Int × ByteArray × List S24 × Int × Int × Bool := (0, 0, ⟨#[]⟩, [], 0, 0, false)
def decls_Perm.f (k : Nat) (a0 a1 : Int) (a2 : ByteArray) (a3 : List S24) (a4 a5 : Int) (l1 : List Int) : Option (Int × Int × ByteArray × List S24 × Int × Int × Bool) := if a3.length < 1000000000 ∧ l1.length < 1000000000 then (decls_inverse.f k l1 (a3.length : Int)).bind fun o => if a0 = 36 ∧ o.2 = true then (decls_Perm.rest k o.1 a3 l1 []).bind fun l => some (a0, a1, a2, l, a4, a5, true) else some decls_Perm.bad else none
theorem decls_Perm.rest_mono (k : Nat) (pl : List Int) (a3 : List S24) : ∀ l out, LeO (decls_Perm.rest k pl a3 l out) (decls_Perm.rest (k + 1) pl a3 l out)
  | [], _ => LeO.refl _
  | x :: xs, out => LeO.ite (LeO.bind (decls_walk.mono pl _ k) fun y => LeO.ite (decls_Perm.rest_mono k pl a3 xs (out ++ [y])) (LeO.refl _)) (LeO.refl _)
theorem decls_Perm.mono : ∀ a0 a1 a2 a3 a4 a5 l1 k, LeO (decls_Perm.f k a0 a1 a2 a3 a4 a5 l1) (decls_Perm.f (k + 1) a0 a1 a2 a3 a4 a5 l1) := fun a0 a1 a2 a3 a4 a5 l1 k =>
  LeO.ite (LeO.bind (decls_inverse.mono _ _ k) fun o => LeO.ite (LeO.bind (decls_Perm.rest_mono k _ _ _ _) fun q => LeO.refl _) (LeO.refl _)) (LeO.refl _)
/-- make([]T, 0, n): a row without elements. -/
theorem decls_Perm.make0 {P : Program} {ops : Array Oper} {rest : List Oper} {o : Oper} {a : Act} {Q : Exit → Act → World → Prop} {α : Type} (d : Kd α) {w0 W : World} (base e : Nat) (hgd : o.guard = none) (t : TypeId) (x y : Operand) (ho : o.op = .makeSlice t x y) (n : Nat) (hx : a.eval x = .int .i64 0) (hy : a.eval y = .int .i64 (n : Int))
    (ht : P.underlying t = some (.slice e)) (z : Value) (bytes : Nat) (hinfo : (P.info? e).map (fun i => (i.zero, i.size, i.bytes)) = some (some z, d.sz, bytes)) (hz : z.cells.size = d.sz) (hs0 : 0 < d.sz) (hb0 : 0 < bytes)
    {ok : Nat → Prop} (hfresh : ok W.heap.size) (hl : n * bytes ≤ 281474976710656) (HB : Below base w0 W) (hbase : base ≤ W.heap.size)
    (h : ∀ g w1, Kd.N d e w1 base ok (.slice (some ⟨g, 0, none⟩) 0 n) [] → Below base w0 w1 → W.grownBy w1 none → W.heap.size ≤ g → wpList P ops Q rest (a.put o.dst (.slice (some ⟨g, 0, none⟩) 0 n)) w1) : wpList P ops Q (o :: rest) a W := by
  obtain ⟨i0, hi, hzz⟩ := Option.map_eq_some_iff.1 hinfo
  simp only [Prod.mk.injEq] at hzz
  obtain ⟨hz0, hz1, hz2⟩ := hzz
  have hm : n ≤ 281474976710656 := Nat.le_trans (Nat.le_mul_of_pos_right _ hb0) hl
  have hr := run_make (P := P) W t e i0 z ht hi hz0 .i64 .i64 0 (n : Int) (by omega) (by omega)
    (by
      have h3 : ((i0.bytes * n : Nat) : Int) ≤ 281474976710656 := by rw [hz2, Nat.mul_comm]; omega
      rwa [Int.natCast_mul] at h3) (by omega)
  simp only [Int.toNat_natCast] at hr
  rw [hz1] at hr
  refine wpList_plain hgd fun K hK => ?_
  unfold Oper.wp
  have hrun : (execOp a.eval o).run P W = .ok (.value (.slice (some ⟨W.heap.size, 0, none⟩) 0 n)) (W.alloc (.cells (madeCells z.cells (n * d.sz)) e)) := by
    simp [execOp, ho, hx, hy, hr]
  rw [hrun]
  refine hK _ _ (h W.heap.size _ (Kd.R_N ⟨fun k hk => by obtain rfl : W.heap.size = k := by simpa [Value.ownBlock] using hk
                                                         exact hfresh, [], ⟨by simp, .inr ⟨W.heap.size, n, _, rfl, hbase, blk_new _ _, by simp, by simp [maxLen]; omega, by simp [size_madeCells], by simp⟩⟩, Reps.none _ _⟩) (HB.trans ((below_alloc (Below.refl _ _) _).mono hbase)) ?_ (Nat.le_refl _))
  exact World.grownBy_alloc _ _ _
theorem decls_Perm.step {P : Program} {ops : Array Oper} {o : Oper} {a : Act} {Q : Exit → Act → World → Prop} {Kc : Act → World → Prop} {E : Prop} {α : Type} (d : Kd α) {W : World} (base : Nat) (hg : o.guard = none) (s x : Operand) (t e : TypeId) (z : Value) (bytes : Nat)
    (ho : o.op = .call { callee := .builtin .append, args := #[s, x], argTypes := #[t, t] })
    (ht : P.underlying t = some (.slice e)) (hinfo : (P.info? e).map (fun i => (i.zero, i.size, i.bytes)) = some (some z, d.sz, bytes)) (hz : z.cells.size = d.sz) (hs0 : 0 < d.sz) (hb0 : 0 < bytes)
    (v : Value) (xs : List α) (p : α) (cs : List Value) (ok okp : Nat → Prop) (hs : a.eval s = v) (hx : a.eval x = .slice (some ⟨W.heap.size, 0, none⟩) 1 1) (hp : Kd.FK d W okp p cs) (hokp : ∀ k, okp k → ok k ∧ some k ≠ v.ownBlock) (hfresh : ∀ k, W.heap.size ≤ k → ok k)
    (HO : Kd.N d e W base ok v xs) (hbase : base ≤ W.heap.size) (hl : (xs.length + 1) * bytes ≤ 140737488355328)
    (h : ∀ v1 w1, Kd.N d e w1 base ok v1 (xs ++ [p]) → Below base W w1 → W.grownBy w1 v.ownBlock → (v1.ownBlock = v.ownBlock ∨ ∃ b, v1.ownBlock = some b ∧ W.heap.size ≤ b) → Kc (a.put o.dst v1) w1) :
    if Region.wanted o (yielded ops a.tmps) = true then Oper.wp P o a (W.alloc (.cells cs.toArray e)) Kc Q else E := by
  have hw : Region.wanted o (yielded ops a.tmps) = true := by simp [Region.wanted, hg]
  have := Kd.N_append_step (ops := ops) (Q := Q) (w0 := W) d base hw s x t e z bytes ho ht hinfo hz hs0 hb0 v xs p cs ok okp hs hx hp hokp hfresh HO (Below.refl _ _) hbase hl h
  rw [if_pos hw] at this ⊢
  exact this
set_option maxHeartbeats 4000000 in
set_option maxRecDepth 100000 in
theorem decls_Perm.calls (k : Nat) (a0 a1 : Int) (a2 : ByteArray) (A : Option Addr) (c : Nat) (a3 : List S24) (a4 a5 : Int) (A1 : Option Addr) (c1 : Nat) (l1 : List Int) (r1 : Int) (r2 : Int) (r3 : ByteArray) (r4 : List (S24)) (r5 : Int) (r6 : Int) (r7 : Bool) (w : World) (hA : Kd.C k24 w A a3.length a3) (hc : a3.length ≤ c) (hA1 : Kd.C (Kd.int .i64) w A1 l1.length l1) (hc1 : l1.length ≤ c1) (h : decls_Perm.f k a0 a1 a2 a3 a4 a5 l1 = some (r1, r2, r3, r4, r5, r6, r7)) :
    Calls Try.prog 10 #[.agg #[.int .i64 a0, .int .i64 a1, .string a2, .slice A a3.length c, .int .i64 a4, .int .i64 a5], .slice A1 l1.length c1] w fun e w' => ∃ v3_ : Value, e = .returned (.tuple #[.agg #[.int .i64 r1, .int .i64 r2, .string r3, v3_, .int .i64 r5, .int .i64 r6], .bool r7]) ∧ Kd.V k24 24 w' w.heap.size (fun k_ => (w.heap.size ≤ k_)) v3_ r4 ∧ Below w.heap.size w w' := by
  have hu := Try.underlying24
  have hu2 := Try.underlying49
  unfold decls_Perm.f at h
  by_cases hl : a3.length < 1000000000 ∧ l1.length < 1000000000
  case neg => rw [if_neg hl] at h; exact absurd h (by simp)
  rw [if_pos hl] at h
  obtain ⟨o, ho, h⟩ := Option.bind_eq_some_iff.mp h
  have HR := Aside0.mk hA
  have HC := Aside0.mk hc
  have HR1 := Aside0.mk hA1
  have HC1 := Aside0.mk hc1
  have HL := Aside0.mk hl
  have HO := Aside0.mk ho
  have H := Aside0.mk h
  clear hA hc hA1 hc1 hl ho h
  go_enter Try.func10, Try.ntmps10
  go_upto_region 2 with (go_at_call 29; (with_reducible refine (decls_inverse.calls k A1 c1 l1 (a3.length : Int) o.1 o.2 _ (Kd.C_below HR1.out (by with_reducible repeat (first | exact Below.refl _ _ | apply below_alloc))) HC1.out HO.out).mono ?_); rintro e w2 ⟨vo, rfl, hr2, hb2⟩; (obtain ⟨Ao, co, rfl, hlo, hco⟩ := Kd.R_reads hr2); (have HF0 := Aside0.mk (Kd.F_mono (Kd.F_bound (Kd.R_F hr2)) (ok' := fun z => z < w2.heap.size) (fun _ h => h.2))); (have HLO := Aside0.mk hlo); (have HB2 := Aside0.mk hb2); clear hr2 hb2 hlo hco)
  obtain ⟨g6, hg6⟩ : ∃ g6, g6 = w2.heap.size := ⟨_, rfl⟩
  obtain ⟨Wl, hWl⟩ : ∃ Wl : World, Wl = w2.alloc (.cells #[.slice Ao o.1.length co] 49) := ⟨_, rfl⟩
  have hbb : Below w.heap.size w ((w.alloc (.cells #[.int .i64 a0, .int .i64 a1, .string a2, .slice A a3.length c, .int .i64 a4, .int .i64 a5] 24)).alloc (.cells #[.int .i64 0, .int .i64 0, .string (⟨#[]⟩ : ByteArray), .slice none 0 0, .int .i64 0, .int .i64 0] 24)) := below_alloc (below_alloc (Below.refl _ _) _) _
  have hb3 : Below ((w.alloc (.cells #[.int .i64 a0, .int .i64 a1, .string a2, .slice A a3.length c, .int .i64 a4, .int .i64 a5] 24)).alloc (.cells #[.int .i64 0, .int .i64 0, .string (⟨#[]⟩ : ByteArray), .slice none 0 0, .int .i64 0, .int .i64 0] 24)).heap.size ((w.alloc (.cells #[.int .i64 a0, .int .i64 a1, .string a2, .slice A a3.length c, .int .i64 a4, .int .i64 a5] 24)).alloc (.cells #[.int .i64 0, .int .i64 0, .string (⟨#[]⟩ : ByteArray), .slice none 0 0, .int .i64 0, .int .i64 0] 24)) Wl := by rw [hWl]; exact below_alloc HB2.out _
  have k0 := Aside0.mk (blk_below (blk_alloc (blk_new w (.cells #[.int .i64 a0, .int .i64 a1, .string a2, .slice A a3.length c, .int .i64 a4, .int .i64 a5] 24)) (.cells #[.int .i64 0, .int .i64 0, .string (⟨#[]⟩ : ByteArray), .slice none 0 0, .int .i64 0, .int .i64 0] 24)) hb3)
  have k1 := blk_below (blk_new (w.alloc (.cells #[.int .i64 a0, .int .i64 a1, .string a2, .slice A a3.length c, .int .i64 a4, .int .i64 a5] 24)) (.cells #[.int .i64 0, .int .i64 0, .string (⟨#[]⟩ : ByteArray), .slice none 0 0, .int .i64 0, .int .i64 0] 24)) hb3
  rw [show (w.alloc (.cells #[.int .i64 a0, .int .i64 a1, .string a2, .slice A a3.length c, .int .i64 a4, .int .i64 a5] 24)).heap.size = w.heap.size + 1 by simp] at k1
  have K1 := Aside0.mk k1
  have k6 : Aside0 (Wl.heap[g6]? = some (.cells #[.slice Ao o.1.length co] 49 (0, 0))) := ⟨by rw [hWl, hg6]; exact blk_new _ _⟩
  have kf : Aside0 (Kd.F (Kd.int .i64) Wl (fun z => z < g6) Ao o.1.length o.1) := ⟨by rw [hWl, hg6]; exact Kd.F_alloc HF0.out _⟩
  have kb : Aside0 (Below w.heap.size w Wl) := ⟨below_step hbb hb3⟩
  have ks : Aside0 (g6 + 1 ≤ Wl.heap.size) := ⟨by rw [hWl, hg6]; simp⟩
  have kz : Aside0 (w.heap.size + 2 ≤ g6) := ⟨by have := HB2.out.size; simp at this; omega⟩
  try rw [← hWl]
  try rw [← hg6]
  have hw0 : w2.heap.size = g6 := hg6.symm
  clear hWl hbb hb3 hw0 hg6 HF0 HB2 k1
  have x0 : Wl.cell? ⟨w.heap.size, 0, none⟩ = some (.int .i64 a0) := (blk_cell k0.out 0).trans rfl
  have x3 : Wl.cell? ⟨w.heap.size, 3, none⟩ = some (.slice A a3.length c) := (blk_cell k0.out 3).trans rfl
  by_cases hok : a0 = 36 ∧ o.2 = true
  case neg =>
    have h := H.out
    rw [if_neg hok] at h
    have e := Option.some.inj h
    simp only [decls_Perm.bad, Prod.mk.injEq] at e
    obtain ⟨rfl, rfl, rfl, rfl, rfl, rfl, rfl⟩ := e
    have hcs : (a0 != 36) = true ∨ ((a0 != 36) = false ∧ o.2 = false) := by
      by_cases h1 : a0 = 36
      · exact .inr ⟨by simpa using h1, by cases h2 : o.2 with | true => exact absurd ⟨h1, h2⟩ hok | false => rfl⟩
      · exact .inl (by simpa using h1)
    clear h H hok
    rcases hcs with hc1 | ⟨hc1, hc2⟩
    all_goals go_wp2_with (refine decls_walk.put_row (w0 := w) w.heap.size rfl 24 (.tmp 4) (.tmp 26) rfl (w.heap.size + 1) #[.int .i64 0, .int .i64 0, .string (⟨#[]⟩ : ByteArray), .slice none 0 0, .int .i64 0, .int .i64 0] rfl rfl 24 _ K1.out (by kernel_rfl) rfl (by simp [Value.oneCell']) kb.out (by omega) ?_; intro W3 hg3 ho3 hz3 hb3; (have HG3 := Aside0.mk hg3); (have HB3 := Aside0.mk hb3); clear hg3 ho3 hz3 hb3)
    all_goals refine bodyPost_ret (results_ct rfl _ _ (w.heap.size + 1) 24 _ (0, 0) _ rfl HG3.out Try.underlying24 rfl (by kernel_rfl)) rfl ?_
    all_goals exact ⟨_, rfl, Kd.V_nil _ _ _ _ _, HB3.out⟩
  have hq := H.out
  rw [if_pos hok] at hq
  obtain ⟨l, hql, hq⟩ := Option.bind_eq_some_iff.mp hq
  have e := Option.some.inj hq
  simp only [Prod.mk.injEq] at e
  obtain ⟨rfl, rfl, rfl, rfl, rfl, rfl, rfl⟩ := e
  have hc1 : (a0 != 36) = false := by simpa using hok.1
  have hc2 := hok.2
  have HQ := Aside0.mk hql
  have ha0 := hok.1
  have pn : 0 ≤ (a3.length : Int) := by omega
  clear hq hql H hok
  go_wp2_with ((with_reducible refine gate_dst (N := 30) rfl ?_); refine decls_Perm.make0 k24 (w0 := Wl) (g6 + 1) 24 rfl 22 _ _ rfl a3.length rfl rfl Try.underlying22 (.agg #[(.int .i64 0), (.int .i64 0), (.string ⟨#[]⟩), (.slice none 0 0), (.int .i64 0), (.int .i64 0)]) 72 info24 rfl (by decide) (by omega) (ok := fun z => g6 < z) (by have := ks.out; omega) (by have := HL.out.1; omega) (Below.refl _ _) ks.out ?_; intro g w3 hn3 hb3 hg3 hle3; (have HN3 := Aside0.mk hn3); (have q0 := Aside0.mk (blk_grown k0.out hg3 (by simp))); (have q1 := Aside0.mk (blk_grown K1.out hg3 (by simp))); (have q6 := Aside0.mk (blk_grown k6.out hg3 (by simp))); (have qf := Aside0.mk (Kd.F_grown kf.out hg3 (by simp))); (have qb := Aside0.mk (kb.out.trans (hb3.mono (by have := kz.out; omega)))); (have qs := Aside0.mk (Nat.le_trans ks.out hb3.size)); clear hn3 hb3 hg3 hle3)
  clear k0 K1 k6 kf kb ks x0 x3
  subst ha0
  go_loopg [33, 8] l1.length (fun n v33 v8 w' => ∃ (j : Nat) (out : List S24), v33 = .int .i64 (j : Int) ∧ j + n = l1.length ∧ Aside0 (decls_Perm.rest k o.1 a3 (l1.drop j) out = some l) ∧ Aside0 (w'.heap[w.heap.size]? = some (.cells #[.int .i64 36, .int .i64 a1, .string a2, .slice A a3.length c, .int .i64 a4, .int .i64 a5] 24 (0, 0))) ∧ Aside0 (w'.heap[w.heap.size + 1]? = some (.cells #[.int .i64 0, .int .i64 0, .string (⟨#[]⟩ : ByteArray), .slice none 0 0, .int .i64 0, .int .i64 0] 24 (0, 0))) ∧ Aside0 (w'.heap[g6]? = some (.cells #[.slice Ao o.1.length co] 49 (0, 0))) ∧ Aside0 (Kd.F (Kd.int .i64) w' (fun z => z < g6) Ao o.1.length o.1) ∧ Aside0 (Kd.N k24 24 w' (g6 + 1) (fun z => g6 < z) v8 out) ∧ Aside0 (Below w.heap.size w w') ∧ Aside0 (g6 + 1 ≤ w'.heap.size))
  case atStart => exact ⟨0, [], rfl, by omega, HQ, q0, q1, q6, qf, HN3, qb, qs⟩
  case round =>
    clear q0 q1 q6 qf HN3 qb qs HQ
    obtain ⟨j, out, rfl, hjq, HQ, H0, H1, H6, HF, HV, HB, HS⟩ := hrel
    cases gk with
    | zero =>
      obtain rfl : j = l1.length := by omega
      have hd : decide ((l1.length : Int) < (l1.length : Int)) = false := by simp
      have hq := HQ.out
      rw [List.drop_length] at hq
      obtain rfl : out = l := Option.some.inj hq
      clear hq HQ
      obtain ⟨A7, c7, rfl⟩ := Kd.N_slice HV.out
      have x3 : wr.cell? ⟨w.heap.size, 3, none⟩ = some (.slice A a3.length c) := (blk_cell H0.out 3).trans rfl
      have f0 : wr.frozen? ⟨w.heap.size, 3, none⟩ = false := blk_frozen H0.out 3
      have y0 := Aside0.mk (blk_put H0.out 3 (.slice A7 out.length c7) rfl)
      have y1 := Aside0.mk (blk_far (p := ⟨w.heap.size, 3, none⟩) H1.out (show w.heap.size + 1 ≠ w.heap.size by omega) (.slice A7 out.length c7))
      have yb : Aside0 (Below w.heap.size w (wr.setCell ⟨w.heap.size, 3, none⟩ (.slice A7 out.length c7))) := ⟨below_set HB.out (show w.heap.size ≤ w.heap.size by omega)⟩
      go_wp2_with (first | (refine wpList_load_row rfl 24 (.tmp 2) rfl w.heap.size rfl 24 _ (0, 0) _ y0.out Try.underlying24 rfl (by kernel_rfl) ?_) | (refine decls_walk.put_row (w0 := w) w.heap.size rfl 24 (.tmp 4) (.tmp 51) rfl (w.heap.size + 1) #[.int .i64 36, .int .i64 a1, .string a2, .slice A7 out.length c7, .int .i64 a4, .int .i64 a5] rfl rfl 24 _ y1.out (by kernel_rfl) rfl (by simp [Value.oneCell']) yb.out (by omega) ?_; intro W3 hg3 ho3 hz3 hb3; (have HG3 := Aside0.mk hg3); (have HO3 := Aside0.mk ho3); (have HB3 := Aside0.mk hb3); clear hg3 ho3 hz3 hb3))
      refine bodyPost_ret (results_ct rfl _ _ (w.heap.size + 1) 24 _ (0, 0) _ rfl HG3.out Try.underlying24 rfl (by kernel_rfl)) rfl ?_
      have HV2 := Kd.N_far (p := ⟨w.heap.size, 3, none⟩) HV.out (fun k hk => show k ≠ w.heap.size by have h1 : g6 < k := hk; have := kz.out; omega) (.slice A7 out.length c7)
      have HV3 := Kd.N_step HV2 (fun k hk hlt => HO3.out k (by have h1 : g6 < k := hk; have := kz.out; omega))
      exact ⟨_, rfl, Kd.V_mono (Kd.N_V HV3) (fun k hk => by have := kz.out; omega), HB3.out⟩
    | succ n =>
      have hjn : j < l1.length := by omega
      have hd : decide ((j : Int) < (l1.length : Int)) = true := decide_eq_true (by omega)
      have p2 : 0 ≤ (j : Int) := by omega
      have p3 : (j : Int) < (l1.length : Int) := by omega
      have hq := HQ.out
      rw [List.drop_eq_getElem_cons hjn, decls_Perm.rest] at hq
      obtain ⟨ad1, e1, hcells⟩ := (Kd.C_below HR1.out HB.out).2.2 (by omega)
      obtain ⟨ci, _, hK, hci⟩ := hcells j l1[j] (List.getElem?_eq_getElem hjn)
      obtain rfl : ci = [.int .i64 l1[j]] := hK
      have hx1 : wr.cell? (ad1.add j) = some (.int .i64 l1[j]) := by have := hci 0 _ rfl; rw [show (Kd.int .i64).sz = 1 from rfl] at this; simpa using this
      subst e1
      generalize l1[j] = x at *
      clear hcells hci
      by_cases hxb : 0 ≤ x ∧ x < (a3.length : Int)
      case neg => rw [if_neg hxb] at hq; exact absurd hq (by simp)
      rw [if_pos hxb] at hq
      obtain ⟨Y, hY, hq⟩ := Option.bind_eq_some_iff.mp hq
      by_cases hol : out.length < 1000000000
      case neg => rw [if_neg hol] at hq; exact absurd hq (by simp)
      rw [if_pos hol] at hq
      obtain ⟨pb0, pb1⟩ := hxb
      obtain ⟨bd, A4, c4, e4, m0, m1, m2, m3, m4, m5, hl4, hc4⟩ := at_T24 (Kd.C_below HR.out HB.out) x pb0 pb1
      obtain ⟨Z, hZe⟩ : ∃ Z, Z = rd_T24 a3 x := ⟨_, rfl⟩
      rw [← hZe] at m0 m1 m2 m3 m4 m5 hl4 hc4 hY
      clear hZe
      subst e4
      have hw : IntKind.i64.wrap ((j : Int) + 1) = ((j + 1 : Nat) : Int) := by
        have := HL.out
        rw [i64_w]
        unfold Go.RowKit.wrap64
        omega
      have x3 : wr.cell? ⟨w.heap.size, 3, none⟩ = some (.slice (some bd) a3.length c) := (blk_cell H0.out 3).trans rfl
      have x6 : wr.cell? ⟨g6, 0, none⟩ = some (.slice Ao o.1.length co) := (blk_cell H6.out 0).trans rfl
      have HX := Aside0.mk (And.intro x3 (And.intro m0 (And.intro m1 (And.intro m2 (And.intro m3 (And.intro m4 (And.intro m5 x6)))))))
      have HC4 := Aside0.mk hc4
      have HL4 := Aside0.mk hl4
      have HQ1 := Aside0.mk hq
      have HY := Aside0.mk hY
      have HOL := Aside0.mk hol
      clear hq HQ hY hol hc4 hl4 x3 m0 m1 m2 m3 m4 m5 x6
      go_upto_region 8 with (fail)
      refine start_ (n := 12) (S := fun w' => w'.cell? ⟨w.heap.size, 3, none⟩ = some (.slice (some bd) a3.length c) ∧ w'.cell? (bd.add (x.toNat * 6)) = some (.int .i64 Z.f0) ∧ w'.cell? ⟨(bd.add (x.toNat * 6)).block, (bd.add (x.toNat * 6)).off + 1, none⟩ = some (.int .i64 Z.f1) ∧ w'.cell? ⟨(bd.add (x.toNat * 6)).block, (bd.add (x.toNat * 6)).off + 2, none⟩ = some (.string Z.f2) ∧ w'.cell? ⟨(bd.add (x.toNat * 6)).block, (bd.add (x.toNat * 6)).off + 3, none⟩ = some (.slice A4 Z.f3.length c4) ∧ w'.cell? ⟨(bd.add (x.toNat * 6)).block, (bd.add (x.toNat * 6)).off + 4, none⟩ = some (.int .i64 Z.f4) ∧ w'.cell? ⟨(bd.add (x.toNat * 6)).block, (bd.add (x.toNat * 6)).off + 5, none⟩ = some (.int .i64 Z.f5) ∧ w'.cell? ⟨g6, 0, none⟩ = some (.slice Ao o.1.length co)) (ds := [10]) (bl 12 0) (by kernel_rfl) rfl rfl ⟨HX.out.1, HX.out.2.1, HX.out.2.2.1, HX.out.2.2.2.1, HX.out.2.2.2.2.1, HX.out.2.2.2.2.2.1, HX.out.2.2.2.2.2.2.1, HX.out.2.2.2.2.2.2.2⟩ (fun hHeld => ?_)
      refine pure_ (i := 0) (N := some 37) (v := ?_) (a' := ?_) (bl 12 1) rfl rfl (by kernel_rfl) (fun _ _ _ h => h) (Or.inl ⟨by rfl, ?_⟩) ?_ ?_
      rotate_left
      · intro w'; go_simp; with_reducible rfl
      rotate_left
      · simp only [Act.put, sa_, sz_, ss_, i64_w, i32_w]; rfl
      refine pure_ (i := 1) (N := some 38) (v := ?_) (a' := ?_) (bl 12 3) rfl rfl (by kernel_rfl) (fun _ _ _ h => h) (Or.inl ⟨by rfl, ?_⟩) ?_ ?_
      rotate_left
      · intro w'; go_simp; with_reducible rfl
      rotate_left
      · simp only [Act.put, sa_, sz_, ss_, i64_w, i32_w]; rfl
      refine pure_ (i := 3) (N := some 40) (v := ?_) (a' := ?_) (bl 12 11) rfl rfl (by kernel_rfl) (fun _ _ _ h => h) (Or.inl ⟨by rfl, ?_⟩) ?_ ?_
      rotate_left
      · intro w'; go_simp; with_reducible rfl
      rotate_left
      · simp only [Act.put, sa_, sz_, ss_, i64_w, i32_w]; rfl
      refine take_ (i := 2) (N := some 39) (v := ?_) (a' := ?_) (bl 12 15) rfl rfl (by kernel_rfl) (fun _ _ _ h => h) (Or.inl ⟨by rfl, ?_⟩) hHeld ?_ ?_
      rotate_left
      · rintro w' ⟨s0, s1, s2, s3, s4, s5, s6, s7⟩
        go_simp
        with_reducible rfl
      rotate_left
      · simp only [Act.put, sa_, sz_, ss_, i64_w, i32_w]; rfl
      refine pure_ (i := 4) (N := some 41) (v := ?_) (a' := ?_) (bl 12 31) rfl rfl (by kernel_rfl) (fun _ _ _ h => h) (Or.inl ⟨by rfl, ?_⟩) ?_ ?_
      rotate_left
      · intro w'; go_simp; with_reducible rfl
      rotate_left
      · simp only [Act.put, sa_, sz_, ss_, i64_w, i32_w]; rfl
      refine take_ (i := 5) (N := some 42) (v := ?_) (a' := ?_) (bl 12 63) rfl rfl (by kernel_rfl) (fun _ _ _ h => h) (Or.inl ⟨by rfl, ?_⟩) hHeld ?_ ?_
      rotate_left
      · rintro w' ⟨s0, s1, s2, s3, s4, s5, s6, s7⟩
        go_simp
        with_reducible rfl
      rotate_left
      · simp only [Act.put, sa_, sz_, ss_, i64_w, i32_w]; rfl
      refine take_ (i := 6) (N := some 43) (v := ?_) (a' := ?_) (bl 12 127) rfl rfl (by kernel_rfl) (fun _ _ _ h => h) (Or.inl ⟨by rfl, ?_⟩) hHeld ?_ ?_
      rotate_left
      · rintro w' ⟨s0, s1, s2, s3, s4, s5, s6, s7⟩
        go_simp
        with_reducible rfl
      rotate_left
      · simp only [Act.put, sa_, sz_, ss_, i64_w, i32_w]; rfl
      refine pure_ (i := 7) (N := some 44) (v := ?_) (a' := ?_) (bl 12 255) rfl rfl (by kernel_rfl) (fun _ _ _ h => h) (Or.inl ⟨by rfl, ?_⟩) ?_ ?_
      rotate_left
      · intro w'; go_simp; with_reducible rfl
      rotate_left
      · simp only [Act.put, sa_, sz_, ss_, i64_w, i32_w]; rfl
      refine one_ (i := 8) (N := some 45) (bl 12 511) rfl rfl (by kernel_rfl) (by decide) (fun K hK => ?_)
      refine goes_ Try.func27 (by kernel_rfl) rfl #[.agg #[.int .i64 Z.f0, .int .i64 Z.f1, .string Z.f2, .slice A4 Z.f3.length c4, .int .i64 Z.f4, .int .i64 Z.f5], .func (.func 28) #[.agg #[.slice Ao o.1.length co]] #[]] (by rfl) rfl rfl (by (try simp only [List.map_toArray, List.map_cons, List.map_nil]); (rfl)) ?_
      with_reducible refine (decls_walk.calls k Z A4 c4 o.1 Ao co Y _ (Kd.C_below HC4.out (by with_reducible repeat (first | exact Below.refl _ _ | apply below_drew))) HL4.out (Kd.C_below (Kd.F_now HF.out) (by with_reducible repeat (first | exact Below.refl _ _ | apply below_drew))) HLO.out HY.out).mono ?_
      rintro e w5 ⟨A5, c5, rfl, hc5, hf5, hb5⟩
      refine ⟨_, rfl, ?_⟩
      have hd5 : Below wr.heap.size wr w5 := below_step (by with_reducible repeat (first | exact Below.refl _ _ | apply below_drew)) hb5
      have HB5 := Aside0.mk hd5
      have HF5 := Aside0.mk (Kd.F_mono hf5 (ok' := fun z => wr.heap.size ≤ z) (fun z hz => hz))
      have HC5 := Aside0.mk hc5
      have K9 : Aside0 (g6 + 1 ≤ w5.heap.size) := ⟨Nat.le_trans HS.out hd5.size⟩
      clear hc5 hf5 hb5 hd5
      refine hK.out _ _ ⟨pw_cell_below HB5.out HX.out.1, pw_cell_below HB5.out HX.out.2.1, pw_cell_below HB5.out HX.out.2.2.1, pw_cell_below HB5.out HX.out.2.2.2.1, pw_cell_below HB5.out HX.out.2.2.2.2.1, pw_cell_below HB5.out HX.out.2.2.2.2.2.1, pw_cell_below HB5.out HX.out.2.2.2.2.2.2.1, pw_cell_below HB5.out HX.out.2.2.2.2.2.2.2⟩ (fun hHeld => ?_)
      clear hK K
      refine norm_ (a' := ?_) ?_ ?_
      rotate_left
      · show Act.put _ (some 45) _ = _
        simp only [Act.put, sa_, sz_, ss_, i64_w, i32_w]
        rfl
      refine one_ (i := 9) (N := some 46) (bl 12 1023) rfl rfl (by kernel_rfl) (by decide) (fun K hK => ?_)
      refine value_ (v := .slice (some ⟨w5.heap.size, 0, none⟩) 1 1) (w1 := w5.alloc (.cells #[.int .i64 Y.f0, .int .i64 Y.f1, .string Y.f2, .slice A5 Y.f3.length c5, .int .i64 Y.f4, .int .i64 Y.f5] 24)) (by rfl) rfl (by go_simp <;> rfl) ?_
      refine hK.out _ _ ⟨pw_cell_below (below_alloc HB5.out _) HX.out.1, pw_cell_below (below_alloc HB5.out _) HX.out.2.1, pw_cell_below (below_alloc HB5.out _) HX.out.2.2.1, pw_cell_below (below_alloc HB5.out _) HX.out.2.2.2.1, pw_cell_below (below_alloc HB5.out _) HX.out.2.2.2.2.1, pw_cell_below (below_alloc HB5.out _) HX.out.2.2.2.2.2.1, pw_cell_below (below_alloc HB5.out _) HX.out.2.2.2.2.2.2.1, pw_cell_below (below_alloc HB5.out _) HX.out.2.2.2.2.2.2.2⟩ (fun hHeld => ?_)
      clear hK K
      refine norm_ (a' := ?_) ?_ ?_
      rotate_left
      · show Act.put _ (some 46) _ = _
        simp only [Act.put, sa_, sz_, ss_, i64_w, i32_w]
        rfl
      refine last_ (i := 10) (N := some 47) (bl 12 2047) rfl rfl (by kernel_rfl) (by decide) (fun K hK => ?_)
      refine decls_Perm.step k24 (W := w5) (g6 + 1) rfl (.tmp 37) (.tmp 46) 22 24 (.agg #[(.int .i64 0), (.int .i64 0), (.string ⟨#[]⟩), (.slice none 0 0), (.int .i64 0), (.int .i64 0)]) 72 rfl Try.underlying22 info24 rfl (by decide) (by omega) _ out Y [.int .i64 Y.f0, .int .i64 Y.f1, .string Y.f2, .slice A5 Y.f3.length c5, .int .i64 Y.f4, .int .i64 Y.f5] (fun z => g6 < z) (fun z => wr.heap.size ≤ z) rfl rfl (decls_walk.mkF _ _ Y HC5.out HF5.out) (fun z hz => ⟨by have h1 : wr.heap.size ≤ z := hz; have := HS.out; omega, fun e => by have := Kd.N_lt HV.out z e.symm; have h1 : wr.heap.size ≤ z := hz; omega⟩) (fun z hz => by have := K9.out; omega) (Kd.N_below HV.out HB5.out) K9.out (by have := HOL.out; omega) ?_
      intro v9 w9 hn9 hb9 hg9 hat9
      refine hK.out _ _ ?_
      clear hK K
      refine norm_ (a' := ?_) ?_ ?_
      rotate_left
      · show Act.put _ (some 47) _ = _
        simp only [Act.put, sa_, sz_, ss_, i64_w, i32_w]
        rfl
      refine pure_ (i := 11) (N := some 8) (v := ?_) (a' := ?_) (bl 12 4095) rfl rfl (by kernel_rfl) (fun _ _ _ h => h) (Or.inl ⟨by rfl, ?_⟩) ?_ ?_
      rotate_left
      · intro w'; go_simp; with_reducible rfl
      rotate_left
      · simp only [Act.put, sa_, sz_, ss_, i64_w, i32_w]; rfl
      refine done_ (by kernel_rfl) ?_
      have HN9 := Aside0.mk hn9
      have HG9 := Aside0.mk hg9
      have HB9 := Aside0.mk hb9
      clear hn9 hg9 hb9 hat9
      go_wp2
      go_roundg n
      case measure => omega
      case rel =>
        have hne : ∀ b, b < g6 + 1 → some b ≠ (_ : Value).ownBlock := fun b hb e => by have := Kd.N_base HV.out b e.symm; omega
        exact ⟨j + 1, out ++ [Y], rfl, by omega, HQ1, ⟨blk_grown (blk_below H0.out HB5.out) HG9.out (hne _ (by have := kz.out; omega))⟩, ⟨blk_grown (blk_below H1.out HB5.out) HG9.out (hne _ (by have := kz.out; omega))⟩, ⟨blk_grown (blk_below H6.out HB5.out) HG9.out (hne _ (by omega))⟩, ⟨Kd.F_grown (Kd.F_below HF.out HB5.out) HG9.out (fun b hb => hne b (Nat.lt_succ_of_lt hb))⟩, HN9, ⟨(below_step HB.out HB5.out).trans (HB9.out.mono (by have := kz.out; omega))⟩, ⟨Nat.le_trans K9.out HB9.out.size⟩⟩

end Go.Proofs.Ytgjmidpoebnieaa.PDm
