-- SLIM: a printed text of which the unused ways are cut off
-- PRINTED by print.py (a twelfth state) out of the translation. Not trusted: Lean checks it.
import Derived.Test.YtiamcmjdoobaeaaPCex0
import Derived.Test.YtiamcmjdoobaeaaPCex1
namespace Go.Proofs.Ytiamcmjdoobaeaa.PCe
open Go.RowKit Go.Proofs.YtiamcmjdoobaeaaW.PrintWords Go.Proofs.YtiamcmjdoobaeaaW.PrintLast Go.Proofs.YtiamcmjdoobaeaaW.PrintMore
attribute [local go_sem] max2_int min2_int max_two min_two max_three min_three max_four min_four   -- for this text's walks alone
set_option linter.unusedVariables false
set_option linter.unusedSimpArgs false

/-! ### code_wr: function 66 (given) -/
/-- a writer: its block, what it has written, what is wrong; O: the blocks that are its own -/
def code_wr.I (B g : Nat) (W : World) (b : List Int) (e : Int) (O : Nat → Prop) : Prop := ∃ v : Value, W.heap[g]? = some (.cells #[v, .int .i64 e] 65 (0, 0)) ∧ B ≤ g ∧ Kd.N (Kd.int .u8) 5 W B (fun q => B ≤ q ∧ q ≠ g) v b ∧ ∀ q, O q ↔ q = g ∨ some q = v.ownBlock
theorem code_wr.move {B g : Nat} {W W' : World} {b : List Int} {e : Int} {O : Nat → Prop} (h : code_wr.I B g W b e O) (hb : Below W.heap.size W W') : code_wr.I B g W' b e O := by
  obtain ⟨v, h1, h2, h3, h4⟩ := h
  exact ⟨v, blk_below h1 hb, h2, Kd.N_below h3 hb, h4⟩
theorem code_wr.own {B g : Nat} {W : World} {b : List Int} {e : Int} {O : Nat → Prop} (h : code_wr.I B g W b e O) : ∀ q, O q → B ≤ q ∧ q < W.heap.size := by
  obtain ⟨v, h1, h2, h3, h4⟩ := h
  intro q hq
  rcases (h4 q).1 hq with rfl | hv
  · exact ⟨h2, blk_lt h1⟩
  · exact ⟨Kd.N_base h3 q hv.symm, Kd.N_lt h3 q hv.symm⟩
def code_wr.Post (B g : Nat) (w : World) (O : Nat → Prop) (b : List Int) (e : Int) (x : Ending) (w' : World) : Prop := ∃ O', x = .returned (.tuple #[]) ∧ code_wr.I B g w' b e O' ∧ Kept w w' O ∧ Below B w w' ∧ ∀ q, q < w.heap.size → O' q → O q
theorem code_wr.info : (Try.prog.info? 5).map (fun i => (i.zero, i.size, i.bytes)) = some (some (.int .u8 0), 1, 1) := by kernel_rfl
theorem code_wr.step {P : Program} {ops : Array Oper} {o : Oper} {a : Act} {Q : Exit → Act → World → Prop} {Kc : Act → World → Prop} {E : Prop} {α : Type} (d : Kd α) {W : World} (base : Nat) (hg : o.guard = none) (s x : Operand) (t e : TypeId) (z : Value) (bytes : Nat)
    (ho : o.op = .call { callee := .builtin .append, args := #[s, x], argTypes := #[t, t] })
    (ht : P.underlying t = some (.slice e)) (hinfo : (P.info? e).map (fun i => (i.zero, i.size, i.bytes)) = some (some z, d.sz, bytes)) (hz : z.cells.size = d.sz) (hs0 : 0 < d.sz) (hb0 : 0 < bytes)
    (v : Value) (xs : List α) (p : α) (cs : List Value) (ok okp : Nat → Prop) (hs : a.eval s = v) (hx : a.eval x = .slice (some ⟨W.heap.size, 0, none⟩) 1 1) (hp : Kd.FK d W okp p cs) (hokp : ∀ k, okp k → ok k ∧ some k ≠ v.ownBlock) (hfresh : ∀ k, W.heap.size ≤ k → ok k)
    (HO : Kd.N d e W base ok v xs) (hbase : base ≤ W.heap.size) (hl : (xs.length + 1) * bytes ≤ 140737488355328)
    (h : ∀ v1 w1, Kd.N d e w1 base ok v1 (xs ++ [p]) → Below base W w1 → W.grownBy w1 v.ownBlock → (v1.ownBlock = v.ownBlock ∨ ∃ b, v1.ownBlock = some b ∧ W.heap.size ≤ b) → Kc (a.put o.dst v1) w1) :
    if Region.wanted o (yielded ops a.tmps) = true then Oper.wp P o a (W.alloc (.cells cs.toArray e)) Kc Q else E := by
  have hw : Region.wanted o (yielded ops a.tmps) = true := by simp [Region.wanted, hg]
  have := Kd.N_append_step (ops := ops) (Q := Q) (w0 := W) d base hw s x t e z bytes ho ht hinfo hz hs0 hb0 v xs p cs ok okp hs hx hp hokp hfresh HO (Below.refl _ _) hbase hl h
  rw [if_pos hw] at this ⊢
  exact this
/-- the store behind an append: the writer again -/
theorem code_wr.done {B g : Nat} {w w5 w9 : World} {v v9 : Value} {b9 : List Int} {e : Int} {O : Nat → Prop} (h1 : w.heap[g]? = some (.cells #[v, .int .i64 e] 65 (0, 0))) (hB : B ≤ w.heap.size) (h2 : B ≤ g) (hv : some g ≠ v.ownBlock) (h4 : ∀ q, O q ↔ q = g ∨ some q = v.ownBlock)
    (hb5 : Below w.heap.size w w5) (hn9 : Kd.N (Kd.int .u8) 5 w9 B (fun q => B ≤ q ∧ q ≠ g) v9 b9) (hb9 : Below B w5 w9) (hg9 : w5.grownBy w9 v.ownBlock) (hat : v9.ownBlock = v.ownBlock ∨ ∃ z, v9.ownBlock = some z ∧ w5.heap.size ≤ z) :
    code_wr.Post B g w O b9 e (.returned (.tuple #[])) (w9.setCell ⟨g, 0, none⟩ v9) := by
  have hgl := blk_lt h1
  have h9 : w9.heap[g]? = some (.cells #[v, .int .i64 e] 65 (0, 0)) := blk_grown (blk_below h1 hb5) hg9 hv
  refine ⟨fun q => q = g ∨ some q = v9.ownBlock, rfl, ⟨v9, blk_put h9 0 _ rfl, h2, Kd.N_far (p := ⟨g, 0, none⟩) hn9 (fun q hq => hq.2) _, fun q => Iff.rfl⟩, ?_, ?_, ?_⟩
  · refine ⟨by have := hb5.size; have := hg9.size; simp; omega, fun q hq ho => ?_⟩
    have hqg : q ≠ g := fun e => ho ((h4 q).2 (.inl e))
    have hqv : some q ≠ v.ownBlock := fun e => ho ((h4 q).2 (.inr e))
    rw [Below.heap_setCell w9 ⟨g, 0, none⟩ _ q hqg]
    exact (hg9.block q (by have := hb5.size; omega) hqv).trans (hb5.block q hq)
  · exact (((hb5.mono hB).trans hb9)).setCell (p := ⟨g, 0, none⟩) h2 _
  · intro q hq ho
    rcases ho with rfl | ho
    · exact (h4 q).2 (.inl rfl)
    · rcases hat with hat | ⟨z, hz, hl⟩
      · exact (h4 q).2 (.inr (ho.trans hat))
      · rw [hz] at ho
        have := Option.some.inj ho
        have := hb5.size
        omega
set_option maxHeartbeats 4000000 in
set_option maxRecDepth 100000 in
theorem code_wr.number_calls (k B g : Nat) (b : List Int) (e : Int) (O : Nat → Prop) (v : Int) (r : List Int) (w : World) (hB : B ≤ w.heap.size) (hI : code_wr.I B g w b e O) (hl : b.length + r.length < 10000000000) (h : varint_Bytes.f k v = some r) :
    Calls Try.prog 66 #[.pointer (some ⟨g, 0, none⟩), .int .u64 v] w (code_wr.Post B g w O (b ++ r) e) := by
  have hu := Try.underlying65
  obtain ⟨vb, h1, h2, h3, h4⟩ := hI
  have hv : some g ≠ vb.ownBlock := Kd.N_away h3 (fun q hq => hq.2)
  obtain ⟨A, c, rfl⟩ := Kd.N_slice h3
  have x0 : w.cell? ⟨g, 0, none⟩ = some (.slice A b.length c) := (blk_cell h1 0).trans rfl
  have H1 := Aside0.mk h1
  have H2 := Aside0.mk h2
  have H3 := Aside0.mk h3
  have H4 := Aside0.mk h4
  have HV := Aside0.mk hv
  have HB := Aside0.mk hB
  have HL := Aside0.mk hl
  have HR := Aside0.mk h
  have HGL := Aside0.mk (blk_lt h1)
  clear h1 h2 h3 h4 hv hB hl h
  go_enter Try.func66, Try.ntmps66
  refine start_ (n := 11) (S := fun w' => w'.cell? ⟨g, 0, none⟩ = some (.slice A b.length c)) (ds := [7, 10]) (bl 11 0) (by kernel_rfl) rfl rfl (x0) (fun hHeld => ?_)
  refine pure_ (i := 0) (N := some 4) (v := ?_) (a' := ?_) (bl 11 1) rfl rfl (by kernel_rfl) (fun _ _ _ h => h) (Or.inl ⟨by rfl, ?_⟩) ?_ ?_
  rotate_left
  · intro w'; go_simp; with_reducible rfl
  rotate_left
  · simp only [Act.put, sa_, sz_, ss_, i64_w, i32_w]; rfl
  refine pure_ (i := 1) (N := some 5) (v := ?_) (a' := ?_) (bl 11 3) rfl rfl (by kernel_rfl) (fun _ _ _ h => h) (Or.inl ⟨by rfl, ?_⟩) ?_ ?_
  rotate_left
  · intro w'; go_simp; with_reducible rfl
  rotate_left
  · simp only [Act.put, sa_, sz_, ss_, i64_w, i32_w]; rfl
  refine pure_ (i := 5) (N := some 9) (v := ?_) (a' := ?_) (bl 11 35) rfl rfl (by kernel_rfl) (fun _ _ _ h => h) (Or.inl ⟨by rfl, ?_⟩) ?_ ?_
  rotate_left
  · intro w'; go_simp; with_reducible rfl
  rotate_left
  · simp only [Act.put, sa_, sz_, ss_, i64_w, i32_w]; rfl
  refine pure_ (i := 2) (N := some 6) (v := ?_) (a' := ?_) (bl 11 39) rfl rfl (by kernel_rfl) (fun _ _ _ h => h) (Or.inl ⟨by rfl, ?_⟩) ?_ ?_
  rotate_left
  · intro w'; go_simp; with_reducible rfl
  rotate_left
  · simp only [Act.put, sa_, sz_, ss_, i64_w, i32_w]; rfl
  refine pure_ (i := 3) (N := some 7) (v := ?_) (a' := ?_) (bl 11 47) rfl rfl (by kernel_rfl) (fun _ _ _ h => h) (Or.inl ⟨by rfl, ?_⟩) ?_ ?_
  rotate_left
  · intro w'; go_simp; with_reducible rfl
  rotate_left
  · simp only [Act.put, sa_, sz_, ss_, i64_w, i32_w]; rfl
  refine take_ (i := 4) (N := some 8) (v := ?_) (a' := ?_) (bl 11 63) rfl rfl (by kernel_rfl) (fun _ _ _ h => h) (Or.inl ⟨by rfl, ?_⟩) hHeld ?_ ?_
  rotate_left
  · rintro w' s0
    go_simp
    with_reducible rfl
  rotate_left
  · simp only [Act.put, sa_, sz_, ss_, i64_w, i32_w]; rfl
  refine one_ (i := 6) (N := some 10) (bl 11 127) rfl rfl (by kernel_rfl) (by decide) (fun K hK => ?_)
  refine goes_ Try.func50 (by kernel_rfl) rfl #[.int .u64 v] (by rfl) rfl rfl (by (try simp only [List.map_toArray, List.map_cons, List.map_nil]); (rfl)) ?_
  with_reducible refine (varint_Bytes.calls k v r _ HR.out).mono ?_
  rintro e w5 ⟨v5, rfl, hr5, hb5⟩
  refine ⟨_, rfl, ?_⟩
  obtain ⟨A5, c5, rfl⟩ := Kd.R_slice hr5
  have HB5 : Aside0 (Below w.heap.size w w5) := ⟨below_step (by with_reducible repeat (first | exact Below.refl _ _ | apply below_drew)) hb5⟩
  have HR5 := Aside0.mk (Kd.F_mono (Kd.R_F (Kd.R_bound hr5)) (ok' := fun q => w.heap.size ≤ q) (fun q hq => hq.2.1))
  clear hr5 hb5
  refine hK.out _ _ (pw_cell_below HB5.out x0) (fun hHeld => ?_)
  clear hK K
  refine norm_ (a' := ?_) ?_ ?_
  rotate_left
  · show Act.put _ (some 10) _ = _
    simp only [Act.put, sa_, sz_, ss_, i64_w, i32_w]
    rfl
  refine last_ (i := 7) (N := some 11) (bl 11 255) rfl rfl (by kernel_rfl) (by decide) (fun K hK => ?_)
  refine Kd.N_append_rows_step (Kd.int .u8) (w0 := w5) B rfl (.tmp 8) (.tmp 10) 22 5 (.int .u8 0) 1 rfl Try.underlying22 code_wr.info rfl (by decide) (by omega) (.slice A b.length c) b r A5 r.length c5 (fun q => B ≤ q ∧ q ≠ g) (fun q => w.heap.size ≤ q) rfl rfl (Kd.N_below H3.out HB5.out) HR5.out (fun q hq => ⟨⟨Nat.le_trans HB.out hq, fun e => by have h1 : w.heap.size ≤ q := hq; have := HGL.out; omega⟩, fun e => by have := Kd.N_lt H3.out q e.symm; have h1 : w.heap.size ≤ q := hq; omega⟩) (fun q hq => ⟨by have := HB.out; have := HB5.out.size; omega, by have := HGL.out; have := HB5.out.size; omega⟩) (Below.refl _ _) (by have := HB.out; have := HB5.out.size; omega) (by have := HL.out; omega) ?_
  intro v9 w9 hn9 hb9 hg9 hat9
  obtain ⟨A9, c9, e9⟩ := Kd.N_slice hn9
  rw [List.length_append] at e9
  subst e9
  have hk9 := blk_grown (blk_below H1.out HB5.out) hg9 HV.out
  have z9 : w9.cell? ⟨g, 0, none⟩ = some (.slice A b.length c) := (blk_cell hk9 0).trans rfl
  have f9 : w9.frozen? ⟨g, 0, none⟩ = false := blk_frozen hk9 0
  have HN9 := Aside0.mk hn9
  have HB9 := Aside0.mk hb9
  have HG9 := Aside0.mk hg9
  have HAT := Aside0.mk hat9
  clear hn9 hb9 hg9 hat9 hk9
  refine hK.out _ _ ?_
  clear hK K
  refine norm_ (a' := ?_) ?_ ?_
  rotate_left
  · show Act.put _ (some 11) _ = _
    simp only [Act.put, sa_, sz_, ss_, i64_w, i32_w]
    rfl
  refine pure_ (i := 8) (N := some 12) (v := ?_) (a' := ?_) (bl 11 511) rfl rfl (by kernel_rfl) (fun _ _ _ h => h) (Or.inl ⟨by rfl, ?_⟩) ?_ ?_
  rotate_left
  · intro w'; go_simp; with_reducible rfl
  rotate_left
  · simp only [Act.put, sa_, sz_, ss_, i64_w, i32_w]; rfl
  refine pure_ (i := 9) (N := some 13) (v := ?_) (a' := ?_) (bl 11 1023) rfl rfl (by kernel_rfl) (fun _ _ _ h => h) (Or.inl ⟨by rfl, ?_⟩) ?_ ?_
  rotate_left
  · intro w'; go_simp; with_reducible rfl
  rotate_left
  · simp only [Act.put, sa_, sz_, ss_, i64_w, i32_w]; rfl
  refine last_ (i := 10) (N := none) (bl 11 2047) rfl rfl (by kernel_rfl) (by decide) (fun K hK => ?_)
  refine skip_ (w1 := ?_) (by rfl) rfl ?_ ?_
  rotate_left
  · go_simp
    rfl
  refine hK.out _ _ ?_
  clear hK K
  refine done_ (by kernel_rfl) ?_
  go_wp2
  go_end0
  exact code_wr.done H1.out HB.out H2.out HV.out H4.out HB5.out HN9.out HB9.out HG9.out HAT.out
set_option maxHeartbeats 4000000 in
set_option maxRecDepth 100000 in
theorem code_wr.fail_calls (B g : Nat) (b : List Int) (e a : Int) (O : Nat → Prop) (w : World) (hI : code_wr.I B g w b e O) :
    Calls Try.prog 65 #[.pointer (some ⟨g, 0, none⟩), .int .i64 a] w (code_wr.Post B g w O b (if e = 0 then a else e)) := by
  have hu := Try.underlying65
  have hown := code_wr.own hI
  obtain ⟨vb, h1, h2, h3, h4⟩ := hI
  have x1 : w.cell? ⟨g, 1, none⟩ = some (.int .i64 e) := (blk_cell h1 1).trans rfl
  have f1 : w.frozen? ⟨g, 1, none⟩ = false := blk_frozen h1 1
  have H1 := Aside0.mk h1
  have H2 := Aside0.mk h2
  have H3 := Aside0.mk h3
  have H4 := Aside0.mk h4
  clear h1 h2 h3 h4 hown
  by_cases he : e = 0
  · subst he
    rw [if_pos rfl]
    go_enter Try.func65, Try.ntmps65
    go_wp2
    go_end0
    exact ⟨O, rfl, ⟨vb, blk_put H1.out 1 _ rfl, H2.out, Kd.N_far (p := ⟨g, 1, none⟩) H3.out (fun q hq => hq.2) _, H4.out⟩, (Kept.refl w O).setCell (p := ⟨g, 1, none⟩) (.inl ((H4.out g).2 (.inl rfl))) _, (Below.refl B w).setCell (p := ⟨g, 1, none⟩) H2.out _, fun _ _ h => h⟩
  · have heb : (e == 0) = false := by simpa using he
    rw [if_neg he]
    clear he
    go_enter Try.func65, Try.ntmps65
    go_wp2
    go_end0
    exact ⟨O, rfl, ⟨vb, H1.out, H2.out, H3.out, H4.out⟩, Kept.refl w O, Below.refl B w, fun _ _ h => h⟩
/-- a term's bytes behind what was written, and what is wrong -/
def code_wr.all (g : S25 → List Int × Int → Option (List Int × Int)) : List S25 → List Int × Int → Option (List Int × Int)
  | [], s => some s
  | x :: xs, s => (g x s).bind fun s' => code_wr.all g xs s'
def code_wr.term : Nat → S25 → Int → List Int × Int → Option (List Int × Int)
  | 0, _, _, _ => none
  | k + 1, t, lv, s => if s.1.length < 1000000000 ∧ t.f3.length < 1000000000 ∧ (-1000000 ≤ lv ∧ lv ≤ 1000000) then
      (if s.2 ≠ 0 then some s else if lv > 64 then some (s.1, 7) else if t.f0 < 1 ∨ t.f0 > 36 then some (s.1, 23) else if t.f2.toList ≠ [] ∨ t.f4 ≠ 0 ∨ t.f5 ≠ 0 then some (s.1, 2) else
        (varint_Zig.f t.f1).bind fun z => (varint_Bytes.f k z).bind fun zb => (varint_Bytes.f k (t.f3.length : Int)).bind fun nb => if zb.length ≤ 1000 ∧ nb.length ≤ 1000 then code_wr.all (fun x s => code_wr.term k x (lv + 1) s) t.f3 (s.1 ++ [t.f0] ++ zb ++ nb, 0) else none) else none
theorem code_wr.then_ {B g : Nat} {w w1 w2 : World} {O O1 : Nat → Prop} {b : List Int} {e : Int} {x : Ending} (hk : Kept w w1 O) (hb : Below B w w1) (ho : ∀ q, q < w.heap.size → O1 q → O q) (h : code_wr.Post B g w1 O1 b e x w2) : code_wr.Post B g w O b e x w2 := by
  obtain ⟨O2, rfl, h1, h2, h3, h4⟩ := h
  exact ⟨O2, rfl, h1, hk.then_ h2 (fun q hq => (Nat.lt_or_ge q w.heap.size).imp (fun hlt => ho q hlt hq) id), hb.trans h3, fun q hlt hq => ho q hlt (h4 q (Nat.lt_of_lt_of_le hlt hk.1) hq)⟩
theorem code_wr.openF {W : World} {ok : Nat → Prop} {x : S25} {cs : List Value} (h : Kd.FK k25 W ok x cs) : ∃ A3 c3, cs = [.int .i64 x.f0, .int .i64 x.f1, .string x.f2, .slice A3 x.f3.length c3, .int .i64 x.f4, .int .i64 x.f5] ∧ x.f3.length ≤ c3 ∧ Kd.F k25 W ok A3 x.f3.length x.f3 := by
  obtain ⟨A3, c3, rfl, l3, _⟩ := k25_open (Kd.FK_now h)
  refine ⟨A3, c3, rfl, l3, fun W2 hW => ?_⟩
  obtain ⟨A4, c4, e, _, g⟩ := k25_open (h W2 hW)
  obtain ⟨rfl, _⟩ : A3 = A4 ∧ c3 = c4 := by simpa using e
  exact g
theorem code_wr.at_ {w : World} {ok : Nat → Prop} {A : Option Addr} {n : Nat} {xs : List S25} (h : Kd.F k25 w ok A n xs) (i : Nat) (h1 : i < xs.length) : ∃ ad A3 c3, A = some ad ∧ w.cell? (ad.add (i * 6)) = some (.int .i64 (xs[i]).f0) ∧ w.cell? ⟨(ad.add (i * 6)).block, (ad.add (i * 6)).off + 1, none⟩ = some (.int .i64 (xs[i]).f1) ∧ w.cell? ⟨(ad.add (i * 6)).block, (ad.add (i * 6)).off + 2, none⟩ = some (.string (xs[i]).f2) ∧ w.cell? ⟨(ad.add (i * 6)).block, (ad.add (i * 6)).off + 3, none⟩ = some (.slice A3 (xs[i]).f3.length c3) ∧ w.cell? ⟨(ad.add (i * 6)).block, (ad.add (i * 6)).off + 4, none⟩ = some (.int .i64 (xs[i]).f4) ∧ w.cell? ⟨(ad.add (i * 6)).block, (ad.add (i * 6)).off + 5, none⟩ = some (.int .i64 (xs[i]).f5) ∧ (xs[i]).f3.length ≤ c3 ∧ Kd.F k25 w ok A3 (xs[i]).f3.length (xs[i]).f3 := by
  have hn := Kd.F_len h
  obtain ⟨ad, c, e, _, hK, hc0, _⟩ := Kd.F_get h z25 (i : Int) (by omega) (by omega)
  rw [Int.toNat_natCast, List.getD_eq_getElem?_getD, List.getElem?_eq_getElem h1, Option.getD_some] at hK
  have hc : ∀ j u, c[j]? = some u → w.cell? (ad.add (i * 6 + j)) = some u := hc0
  obtain ⟨A3, c3, rfl, l3, g3⟩ := code_wr.openF hK
  exact ⟨ad, A3, c3, e, hc 0 _ rfl, by rw [← add_field _ _ 1 (by omega)]; exact hc 1 _ rfl, by rw [← add_field _ _ 2 (by omega)]; exact hc 2 _ rfl, by rw [← add_field _ _ 3 (by omega)]; exact hc 3 _ rfl, by rw [← add_field _ _ 4 (by omega)]; exact hc 4 _ rfl, by rw [← add_field _ _ 5 (by omega)]; exact hc 5 _ rfl, l3, g3⟩
set_option maxHeartbeats 8000000 in
set_option maxRecDepth 100000 in
theorem code_wr.term_calls (k : Nat) : ∀ (B g : Nat) (t : S25) (At : Option Addr) (ct : Nat) (lv : Int) (s r : List Int × Int) (O : Nat → Prop) (w : World), B ≤ w.heap.size → Kd.F k25 w (fun q => q < B) At t.f3.length t.f3 → t.f3.length ≤ ct → code_wr.I B g w s.1 s.2 O → code_wr.term k t lv s = some r →
    Calls Try.prog 32 #[.pointer (some ⟨g, 0, none⟩), .agg #[.int .i64 t.f0, .int .i64 t.f1, .string t.f2, .slice At t.f3.length ct, .int .i64 t.f4, .int .i64 t.f5], .int .i64 lv] w (code_wr.Post B g w O r.1 r.2) := by
  induction k with
  | zero => intro B g t At ct lv s r O w _ _ _ _ h; exact absurd h (by simp [code_wr.term])
  | succ k ih =>
  intro B g t At ct lv s r O w hB hT hct hI h
  have hu := Try.underlying65
  have hu2 := Try.underlying25
  obtain ⟨b, e⟩ := s
  rw [code_wr.term] at h
  by_cases hs : b.length < 1000000000 ∧ t.f3.length < 1000000000 ∧ (-1000000 ≤ lv ∧ lv ≤ 1000000)
  case neg => rw [if_neg hs] at h; exact absurd h (by simp)
  rw [if_pos hs] at h
  dsimp only at h hI
  have HIH := Aside0.mk ih
  have HB := Aside0.mk hB
  have HT := Aside0.mk hT
  have HCT := Aside0.mk hct
  have HS := Aside0.mk hs
  obtain ⟨W1, hW1⟩ : ∃ W1 : World, W1 = w.alloc (.cells #[.int .i64 t.f0, .int .i64 t.f1, .string t.f2, .slice At t.f3.length ct, .int .i64 t.f4, .int .i64 t.f5] 25) := ⟨_, rfl⟩
  have hb1 : Below w.heap.size w W1 := by rw [hW1]; exact below_alloc (Below.refl _ _) _
  have hi1 : code_wr.I B g W1 b e O := code_wr.move hI hb1
  have hx1 : W1.heap[w.heap.size]? = some (.cells #[.int .i64 t.f0, .int .i64 t.f1, .string t.f2, .slice At t.f3.length ct, .int .i64 t.f4, .int .i64 t.f5] 25 (0, 0)) := by rw [hW1]; exact blk_new _ _
  have hs1 : W1.heap.size = w.heap.size + 1 := by rw [hW1]; simp
  have hok : ¬ O w.heap.size := fun ho => by have := (code_wr.own hI _ ho).2; omega
  have x1 : W1.cell? ⟨g, 1, none⟩ = some (.int .i64 e) := by obtain ⟨v, h1, _⟩ := hi1; exact (blk_cell h1 1).trans rfl
  have HI1 := Aside0.mk hi1
  have HX1 := Aside0.mk hx1
  have HS1 := Aside0.mk hs1
  have HB1 := Aside0.mk hb1
  have HOK := Aside0.mk hok
  have PRE : Aside0 (∀ {b e x w2}, code_wr.Post B g W1 O b e x w2 → code_wr.Post B g w O b e x w2) := ⟨fun h => code_wr.then_ ((Kept.refl w O).below hb1) (Below.mono hb1 hB) (fun q hlt hq => hq) h⟩
  clear ih hB hT hct hs hI hi1 hx1 hs1 hb1 hok
  go_enter Try.func32, Try.ntmps32
  go_upto_region 1 with (fail)
  rw [← hW1]
  clear hW1
  by_cases he : e ≠ 0
  · rw [if_pos he] at h
    obtain rfl := Option.some.inj h
    have heb : (e != 0) = true := by simpa using he
    clear h he
    go_wp2
    go_end0
    exact PRE.out ⟨O, rfl, HI1.out, Kept.refl _ _, Below.refl _ _, fun _ _ h => h⟩
  rw [if_neg he] at h
  obtain rfl : e = 0 := by simpa using he
  clear he
  have y0 : W1.cell? ⟨w.heap.size, 0, none⟩ = some (.int .i64 t.f0) := (blk_cell HX1.out 0).trans rfl
  have y2 : W1.cell? ⟨w.heap.size, 2, none⟩ = some (.string t.f2) := (blk_cell HX1.out 2).trans rfl
  have y4 : W1.cell? ⟨w.heap.size, 4, none⟩ = some (.int .i64 t.f4) := (blk_cell HX1.out 4).trans rfl
  have y5 : W1.cell? ⟨w.heap.size, 5, none⟩ = some (.int .i64 t.f5) := (blk_cell HX1.out 5).trans rfl
  by_cases hlv : lv > 64
  · rw [if_pos hlv] at h
    obtain rfl := Option.some.inj h
    have hd : decide (64 < lv) = true := decide_eq_true hlv
    clear h hlv
    go_wp2_with (go_at_call 65; (with_reducible refine (code_wr.fail_calls B g b 0 7 O _ HI1.out).mono ?_); rintro y w2 ⟨O2, rfl, hi2, hk2, hb2, ho2⟩; rw [if_pos rfl] at hi2; (have HP2 : Aside0 (code_wr.Post B g W1 O b 7 (.returned (.tuple #[])) w2) := ⟨O2, rfl, hi2, hk2, hb2, ho2⟩); clear hi2 hk2 hb2 ho2)
    go_end0
    exact PRE.out HP2.out
  rw [if_neg hlv] at h
  have hd : decide (64 < lv) = false := decide_eq_false hlv
  clear hlv
  by_cases hk : t.f0 < 1 ∨ t.f0 > 36
  · rw [if_pos hk] at h
    obtain rfl := Option.some.inj h
    clear h
    by_cases hk1 : t.f0 < 1
    · have hd1 : decide (t.f0 < 1) = true := decide_eq_true hk1
      clear hk hk1
      go_wp2_with (go_at_call 65; (with_reducible refine (code_wr.fail_calls B g b 0 23 O _ HI1.out).mono ?_); rintro y w2 ⟨O2, rfl, hi2, hk2, hb2, ho2⟩; rw [if_pos rfl] at hi2; (have HP2 : Aside0 (code_wr.Post B g W1 O b 23 (.returned (.tuple #[])) w2) := ⟨O2, rfl, hi2, hk2, hb2, ho2⟩); clear hi2 hk2 hb2 ho2)
      go_end0
      exact PRE.out HP2.out
    · have hd1 : decide (t.f0 < 1) = false := decide_eq_false hk1
      have hd2 : decide (36 < t.f0) = true := decide_eq_true (hk.resolve_left hk1)
      clear hk hk1
      go_wp2_with (go_at_call 65; (with_reducible refine (code_wr.fail_calls B g b 0 23 O _ HI1.out).mono ?_); rintro y w2 ⟨O2, rfl, hi2, hk2, hb2, ho2⟩; rw [if_pos rfl] at hi2; (have HP2 : Aside0 (code_wr.Post B g W1 O b 23 (.returned (.tuple #[])) w2) := ⟨O2, rfl, hi2, hk2, hb2, ho2⟩); clear hi2 hk2 hb2 ho2)
      go_end0
      exact PRE.out HP2.out
  rw [if_neg hk] at h
  have hd1 : decide (t.f0 < 1) = false := decide_eq_false (fun h => hk (.inl h))
  have hd2 : decide (36 < t.f0) = false := decide_eq_false (fun h => hk (.inr h))
  have hk0 : 1 ≤ t.f0 ∧ t.f0 ≤ 36 := by omega
  clear hk
  by_cases hf : t.f2.toList ≠ [] ∨ t.f4 ≠ 0 ∨ t.f5 ≠ 0
  · rw [if_pos hf] at h
    obtain rfl := Option.some.inj h
    clear h
    by_cases hf1 : t.f2.toList = []
    · have hd3 : (t.f2.toList != []) = false := by simpa using hf1
      have hd3' : (t.f2.toList == []) = true := by simpa using hf1
      by_cases hf2 : t.f4 = 0
      · have hd4 : (t.f4 != 0) = false := by simpa using hf2
        have hf3 : t.f5 ≠ 0 := (hf.resolve_left (fun h => h hf1)).resolve_left (fun h => h hf2)
        have hd5 : (t.f5 != 0) = true := by simpa using hf3
        clear hf hf1 hf2 hf3
        go_wp2_with (go_at_call 65; (with_reducible refine (code_wr.fail_calls B g b 0 2 O _ HI1.out).mono ?_); rintro y w2 ⟨O2, rfl, hi2, hk2, hb2, ho2⟩; rw [if_pos rfl] at hi2; (have HP2 : Aside0 (code_wr.Post B g W1 O b 2 (.returned (.tuple #[])) w2) := ⟨O2, rfl, hi2, hk2, hb2, ho2⟩); clear hi2 hk2 hb2 ho2)
        go_end0
        exact PRE.out HP2.out
      · have hd4 : (t.f4 != 0) = true := by simpa using hf2
        clear hf hf1 hf2
        go_wp2_with (go_at_call 65; (with_reducible refine (code_wr.fail_calls B g b 0 2 O _ HI1.out).mono ?_); rintro y w2 ⟨O2, rfl, hi2, hk2, hb2, ho2⟩; rw [if_pos rfl] at hi2; (have HP2 : Aside0 (code_wr.Post B g W1 O b 2 (.returned (.tuple #[])) w2) := ⟨O2, rfl, hi2, hk2, hb2, ho2⟩); clear hi2 hk2 hb2 ho2)
        go_end0
        exact PRE.out HP2.out
    · have hd3 : (t.f2.toList != []) = true := by simpa using hf1
      have hd3' : (t.f2.toList == []) = false := by simpa using hf1
      clear hf hf1
      go_wp2_with (go_at_call 65; (with_reducible refine (code_wr.fail_calls B g b 0 2 O _ HI1.out).mono ?_); rintro y w2 ⟨O2, rfl, hi2, hk2, hb2, ho2⟩; rw [if_pos rfl] at hi2; (have HP2 : Aside0 (code_wr.Post B g W1 O b 2 (.returned (.tuple #[])) w2) := ⟨O2, rfl, hi2, hk2, hb2, ho2⟩); clear hi2 hk2 hb2 ho2)
      go_end0
      exact PRE.out HP2.out
  rw [if_neg hf] at h
  have hf1 : t.f2.toList = [] := by
    by_cases h1 : t.f2.toList = []
    · exact h1
    · exact absurd (.inl h1) hf
  have hf2 : t.f4 = 0 := by
    by_cases h1 : t.f4 = 0
    · exact h1
    · exact absurd (.inr (.inl h1)) hf
  have hf3 : t.f5 = 0 := by
    by_cases h1 : t.f5 = 0
    · exact h1
    · exact absurd (.inr (.inr h1)) hf
  have hd3 : (t.f2.toList != []) = false := by simpa using hf1
  have hd3' : (t.f2.toList == []) = true := by simpa using hf1
  have hd4 : (t.f4 != 0) = false := by simpa using hf2
  have hd5 : (t.f5 != 0) = false := by simpa using hf3
  clear hf hf1 hf2 hf3
  obtain ⟨z, hz, h⟩ := Option.bind_eq_some_iff.mp h
  obtain ⟨zb, hzb, h⟩ := Option.bind_eq_some_iff.mp h
  obtain ⟨nb, hnb, h⟩ := Option.bind_eq_some_iff.mp h
  by_cases hln : zb.length ≤ 1000 ∧ nb.length ≤ 1000
  case neg => rw [if_neg hln] at h; exact absurd h (by simp)
  rw [if_pos hln] at h
  have HZ := Aside0.mk hz
  have HZB := Aside0.mk hzb
  have HNB := Aside0.mk hnb
  have HLN := Aside0.mk hln
  have H := Aside0.mk h
  have HK0 := Aside0.mk hk0
  clear hz hzb hnb hln h hk0 x1 y2 y4 y5
  obtain ⟨vb, h1, h2, h3, h4⟩ := HI1.out
  have hv : some g ≠ vb.ownBlock := Kd.N_away h3 (fun q hq => hq.2)
  obtain ⟨A, c, rfl⟩ := Kd.N_slice h3
  have x0 : W1.cell? ⟨g, 0, none⟩ = some (.slice A b.length c) := (blk_cell h1 0).trans rfl
  have x1 : W1.cell? ⟨g, 1, none⟩ = some (.int .i64 0) := (blk_cell h1 1).trans rfl
  have H1 := Aside0.mk h1
  have H2 := Aside0.mk h2
  have H3 := Aside0.mk h3
  have H4 := Aside0.mk h4
  have HV := Aside0.mk hv
  have HGL := Aside0.mk (blk_lt h1)
  have y2 : W1.cell? ⟨w.heap.size, 2, none⟩ = some (.string t.f2) := (blk_cell HX1.out 2).trans rfl
  have y4 : W1.cell? ⟨w.heap.size, 4, none⟩ = some (.int .i64 t.f4) := (blk_cell HX1.out 4).trans rfl
  have y5 : W1.cell? ⟨w.heap.size, 5, none⟩ = some (.int .i64 t.f5) := (blk_cell HX1.out 5).trans rfl
  clear h1 h2 h3 h4 hv
  go_upto_region 8 with (fail)
  refine start_ (n := 13) (S := fun w' => w'.cell? ⟨g, 0, none⟩ = some (.slice A b.length c) ∧ w'.cell? ⟨w.heap.size, 0, none⟩ = some (.int .i64 t.f0)) (ds := [9, 12]) (bl 13 0) (by kernel_rfl) rfl rfl ⟨x0, y0⟩ (fun hHeld => ?_)
  refine pure_ (i := 0) (N := some 46) (v := ?_) (a' := ?_) (bl 13 1) rfl rfl (by kernel_rfl) (fun _ _ _ h => h) (Or.inl ⟨by rfl, ?_⟩) ?_ ?_
  rotate_left
  · intro w'; go_simp; with_reducible rfl
  rotate_left
  · simp only [Act.put, sa_, sz_, ss_, i64_w, i32_w]; rfl
  refine pure_ (i := 1) (N := some 47) (v := ?_) (a' := ?_) (bl 13 3) rfl rfl (by kernel_rfl) (fun _ _ _ h => h) (Or.inl ⟨by rfl, ?_⟩) ?_ ?_
  rotate_left
  · intro w'; go_simp; with_reducible rfl
  rotate_left
  · simp only [Act.put, sa_, sz_, ss_, i64_w, i32_w]; rfl
  refine pure_ (i := 5) (N := some 51) (v := ?_) (a' := ?_) (bl 13 35) rfl rfl (by kernel_rfl) (fun _ _ _ h => h) (Or.inl ⟨by rfl, ?_⟩) ?_ ?_
  rotate_left
  · intro w'; go_simp; with_reducible rfl
  rotate_left
  · simp only [Act.put, sa_, sz_, ss_, i64_w, i32_w]; rfl
  refine pure_ (i := 2) (N := some 48) (v := ?_) (a' := ?_) (bl 13 39) rfl rfl (by kernel_rfl) (fun _ _ _ h => h) (Or.inl ⟨by rfl, ?_⟩) ?_ ?_
  rotate_left
  · intro w'; go_simp; with_reducible rfl
  rotate_left
  · simp only [Act.put, sa_, sz_, ss_, i64_w, i32_w]; rfl
  refine pure_ (i := 3) (N := some 49) (v := ?_) (a' := ?_) (bl 13 47) rfl rfl (by kernel_rfl) (fun _ _ _ h => h) (Or.inl ⟨by rfl, ?_⟩) ?_ ?_
  rotate_left
  · intro w'; go_simp; with_reducible rfl
  rotate_left
  · simp only [Act.put, sa_, sz_, ss_, i64_w, i32_w]; rfl
  refine take_ (i := 4) (N := some 50) (v := ?_) (a' := ?_) (bl 13 63) rfl rfl (by kernel_rfl) (fun _ _ _ h => h) (Or.inl ⟨by rfl, ?_⟩) hHeld ?_ ?_
  rotate_left
  · rintro w' ⟨s0, s1⟩
    go_simp
    with_reducible rfl
  rotate_left
  · simp only [Act.put, sa_, sz_, ss_, i64_w, i32_w]; rfl
  refine take_ (i := 6) (N := some 52) (v := ?_) (a' := ?_) (bl 13 127) rfl rfl (by kernel_rfl) (fun _ _ _ h => h) (Or.inl ⟨by rfl, ?_⟩) hHeld ?_ ?_
  rotate_left
  · rintro w' ⟨s0, s1⟩
    go_simp
    with_reducible rfl
  rotate_left
  · simp only [Act.put, sa_, sz_, ss_, i64_w, i32_w]; rfl
  refine pure_ (i := 7) (N := some 53) (v := ?_) (a' := ?_) (bl 13 255) rfl rfl (by kernel_rfl) (fun _ _ _ h => h) (Or.inl ⟨by rfl, ?_⟩) ?_ ?_
  rotate_left
  · intro w'; go_simp; with_reducible rfl
  rotate_left
  · simp only [Act.put, sa_, sz_, ss_, i64_w, i32_w]; rfl
  refine one_ (i := 8) (N := some 54) (bl 13 511) rfl rfl (by kernel_rfl) (by decide) (fun K hK => ?_)
  refine value_ (v := .slice (some ⟨W1.heap.size, 0, none⟩) 1 1) (w1 := W1.drew.alloc (.cells #[.int .u8 (t.f0 % 256)] 5)) (by rfl) rfl (by go_simp <;> rfl) ?_
  refine hK.out _ _ ⟨pw_cell_below (below_alloc (below_drew (Below.refl _ _)) _) x0, pw_cell_below (below_alloc (below_drew (Below.refl _ _)) _) y0⟩ (fun hHeld => ?_)
  clear hK K
  refine norm_ (a' := ?_) ?_ ?_
  rotate_left
  · show Act.put _ (some 54) _ = _
    simp only [Act.put, sa_, sz_, ss_, i64_w, i32_w]
    rfl
  refine last_ (i := 9) (N := some 55) (bl 13 1023) rfl rfl (by kernel_rfl) (by decide) (fun K hK => ?_)
  refine code_wr.step (Kd.int .u8) (W := W1.drew) B rfl (.tmp 50) (.tmp 54) 22 5 (.int .u8 0) 1 rfl Try.underlying22 code_wr.info rfl (by decide) (by omega) (.slice A b.length c) b (t.f0 % 256) [.int .u8 (t.f0 % 256)] (fun q => B ≤ q ∧ q ≠ g) (fun _ => False) rfl rfl (fun W2 _ => rfl) (fun q hq => hq.elim) (fun q hq => ⟨by have := HB.out; have := HS1.out; have h1 : W1.heap.size ≤ q := hq; omega, by have := HGL.out; have h1 : W1.heap.size ≤ q := hq; omega⟩) (Kd.N_drew H3.out) (show B ≤ W1.heap.size by have := HB.out; have := HS1.out; omega) (by have := HS.out; omega) ?_
  intro v9 w9 hn9 hb9 hg9 hat9
  obtain ⟨A9, c9, e9⟩ := Kd.N_slice hn9
  rw [List.length_append, List.length_singleton] at e9
  subst e9
  have hk9 := blk_grown (w := W1.drew) (show W1.drew.heap[g]? = _ from H1.out) hg9 HV.out
  have z9 : w9.cell? ⟨g, 0, none⟩ = some (.slice A b.length c) := (blk_cell hk9 0).trans rfl
  have f9 : w9.frozen? ⟨g, 0, none⟩ = false := blk_frozen hk9 0
  have HN9 := Aside0.mk hn9
  have HB9 := Aside0.mk hb9
  have HG9 := Aside0.mk hg9
  have HAT := Aside0.mk hat9
  clear hn9 hb9 hg9 hat9 hk9
  refine hK.out _ _ ?_
  clear hK K
  refine norm_ (a' := ?_) ?_ ?_
  rotate_left
  · show Act.put _ (some 55) _ = _
    simp only [Act.put, sa_, sz_, ss_, i64_w, i32_w]
    rfl
  refine pure_ (i := 10) (N := some 56) (v := ?_) (a' := ?_) (bl 13 2047) rfl rfl (by kernel_rfl) (fun _ _ _ h => h) (Or.inl ⟨by rfl, ?_⟩) ?_ ?_
  rotate_left
  · intro w'; go_simp; with_reducible rfl
  rotate_left
  · simp only [Act.put, sa_, sz_, ss_, i64_w, i32_w]; rfl
  refine pure_ (i := 11) (N := some 57) (v := ?_) (a' := ?_) (bl 13 4095) rfl rfl (by kernel_rfl) (fun _ _ _ h => h) (Or.inl ⟨by rfl, ?_⟩) ?_ ?_
  rotate_left
  · intro w'; go_simp; with_reducible rfl
  rotate_left
  · simp only [Act.put, sa_, sz_, ss_, i64_w, i32_w]; rfl
  refine last_ (i := 12) (N := none) (bl 13 8191) rfl rfl (by kernel_rfl) (by decide) (fun K hK => ?_)
  refine skip_ (w1 := ?_) (by rfl) rfl ?_ ?_
  rotate_left
  · go_simp
    rfl
  refine hK.out _ _ ?_
  clear hK K
  refine done_ (by kernel_rfl) ?_
  have hP8 := code_wr.done H1.out (show B ≤ W1.heap.size by have := HB.out; have := HS1.out; omega) H2.out HV.out H4.out (below_drew (Below.refl _ _)) HN9.out HB9.out HG9.out HAT.out
  obtain ⟨W8, hW8⟩ : ∃ W8 : World, W8 = w9.setCell ⟨g, 0, none⟩ (.slice A9 (b.length + 1) c9) := ⟨_, rfl⟩
  try rw [← hW8] at hP8
  try rw [← hW8]
  rw [show t.f0 % 256 = t.f0 by have := HK0.out; omega] at hP8
  obtain ⟨O8, _, hi8, hk8, hb8, ho8⟩ := hP8
  have hx8 : W8.heap[w.heap.size]? = some (.cells #[.int .i64 t.f0, .int .i64 t.f1, .string t.f2, .slice At t.f3.length ct, .int .i64 t.f4, .int .i64 t.f5] 25 (0, 0)) := (hk8.2 w.heap.size (blk_lt HX1.out) HOK.out).trans HX1.out
  have hn8 : ¬ O8 w.heap.size := fun ho => HOK.out (ho8 _ (blk_lt HX1.out) ho)
  have c1 : W8.cell? ⟨w.heap.size, 1, none⟩ = some (.int .i64 t.f1) := (blk_cell hx8 1).trans rfl
  have hwl : IntKind.u64.wrap (t.f3.length : Int) = (t.f3.length : Int) := IntWalk.u64_in _ (by have := HS.out; omega)
  have hwv : IntKind.i64.wrap (lv + 1) = lv + 1 := IntWalk.i64_in _ (by have := HS.out; omega)
  have HZ8 : Aside0 (B ≤ W8.heap.size) := ⟨Nat.le_trans (by have := HB.out; have := HS1.out; omega) hk8.1⟩
  have HI8 := Aside0.mk hi8
  have HK8 := Aside0.mk hk8
  have HB8 := Aside0.mk hb8
  have HO8 := Aside0.mk ho8
  have HX8 := Aside0.mk hx8
  have HN8 := Aside0.mk hn8
  have HBW : Aside0 (B ≤ W1.heap.size) := ⟨by have := HB.out; have := HS1.out; omega⟩
  have HT1 : Aside0 (Kd.F k25 W1 (fun q => q < B) At t.f3.length t.f3) := ⟨Kd.F_below HT.out HB1.out⟩
  have HI8D : Aside0 (∀ m, code_wr.I B g (W8.drewN m) (b ++ [t.f0]) 0 O8) := ⟨fun m => code_wr.move HI8.out (pw_below_drewN (Below.refl _ _) m)⟩
  have HZ8D : Aside0 (∀ m, B ≤ (W8.drewN m).heap.size) := ⟨fun m => HZ8.out⟩
  have HOW : Aside0 (∀ q, O q → B ≤ q ∧ q < W1.heap.size) := ⟨code_wr.own HI1.out⟩
  clear hi8 hk8 hb8 ho8 hx8 hn8 hW8 HN9 HB9 HG9 HAT H1 H2 H3 H4 HV HGL HI1 HT x0 x1 y0 y2 y4 y5 z9 f9
  go_wp2_with (first | (go_at_call 66; (with_reducible refine (code_wr.number_calls k B g (b ++ [t.f0] ++ zb) 0 O3 (t.f3.length : Int) nb _ HZ3.out HI3.out (by have := HS.out; have := HLN.out; simp; omega) HNB.out).mono ?_); rintro y w4 ⟨O4, rfl, hi4, hk4, hb4, ho4⟩; (have hx4 := (hk4.2 w.heap.size (blk_lt HX3.out) HN3.out).trans HX3.out); (have c4 : w4.cell? ⟨w.heap.size, 3, none⟩ = some (.slice At t.f3.length ct) := (blk_cell hx4 3).trans rfl); (have HI4 := Aside0.mk hi4); (have HK4 := Aside0.mk hk4); (have HB4 := Aside0.mk hb4); (have HO4 := Aside0.mk ho4); (have HX4 := Aside0.mk hx4); clear hi4 hk4 hb4 ho4 hx4) | (go_at_call 66; (with_reducible refine (code_wr.number_calls k B g (b ++ [t.f0]) 0 O8 z zb _ (HZ8D.out _) (HI8D.out _) (by have := HS.out; have := HLN.out; simp; omega) HZB.out).mono ?_); rintro y w3 ⟨O3, rfl, hi3, hk3, hb3, ho3⟩; (have hx3 := (hk3.2 w.heap.size (show w.heap.size < W8.heap.size from blk_lt HX8.out) HN8.out).trans (show (W8.drewN m2).heap[w.heap.size]? = _ from HX8.out)); (have c3 : w3.cell? ⟨w.heap.size, 3, none⟩ = some (.slice At t.f3.length ct) := (blk_cell hx3 3).trans rfl); (have hn3 : ¬ O3 w.heap.size := fun ho => HN8.out (ho3 _ (show w.heap.size < W8.heap.size from blk_lt HX8.out) ho)); (have HZ3 : Aside0 (B ≤ w3.heap.size) := ⟨Nat.le_trans HZ8.out hk3.1⟩); (have HI3 := Aside0.mk hi3); (have HK3 : Aside0 (Kept W8 w3 O8) := ⟨hk3⟩); (have HB3 : Aside0 (Below B W8 w3) := ⟨(pw_below_drewN (Below.refl _ _) m2).trans hb3⟩); (have HO3 : Aside0 (∀ q, q < W8.heap.size → O3 q → O8 q) := ⟨ho3⟩); (have HX3 := Aside0.mk hx3); (have HN3 := Aside0.mk hn3); clear hi3 hk3 hb3 ho3 hx3 hn3) | (go_at_call 67; (with_reducible refine (varint_Zig.calls t.f1 z _ HZ.out).mono ?_); rintro y w2 ⟨rfl, m2, rfl⟩))
  have hP4 : code_wr.Post B g W1 O (b ++ [t.f0] ++ zb ++ nb) 0 (.returned (.tuple #[])) w4 := code_wr.then_ HK8.out HB8.out HO8.out (code_wr.then_ HK3.out HB3.out HO3.out ⟨O4, rfl, HI4.out, HK4.out, HB4.out, HO4.out⟩)
  have HP4 := Aside0.mk hP4
  clear hP4 HI4 HK4 HB4 HO4 HX4 HI3 HK3 HB3 HO3 HX3 HN3 HZ3 HI8 HK8 HB8 HO8 HX8 HN8 HI8D HZ8D HZ8 c1 c3 c4 hHeld
  go_loopg [72] t.f3.length (fun q v72 w' => ∃ (j : Nat) (s' : List Int × Int), v72 = .int .i64 (j : Int) ∧ j + q = t.f3.length ∧ Aside0 (code_wr.all (fun x s => code_wr.term k x (lv + 1) s) (t.f3.drop j) s' = some r) ∧ Aside0 (code_wr.Post B g W1 O s'.1 s'.2 (.returned (.tuple #[])) w'))
  case atStart => exact ⟨0, (b ++ [t.f0] ++ zb ++ nb, 0), rfl, by omega, H, HP4⟩
  case round =>
    clear HP4 H
    obtain ⟨j, s', rfl, hjq, H, HP⟩ := hrel
    cases gk with
    | zero =>
      obtain rfl : j = t.f3.length := by omega
      have hdj : decide ((t.f3.length : Int) < (t.f3.length : Int)) = false := by simp
      have hr := H.out
      rw [List.drop_length] at hr
      obtain rfl : s' = r := Option.some.inj hr
      clear hr H
      go_wp2
      go_end0
      exact PRE.out HP.out
    | succ q =>
      have hjn : j < t.f3.length := by omega
      have hdj : decide ((j : Int) < (t.f3.length : Int)) = true := decide_eq_true (by omega)
      have p0 : 0 ≤ (j : Int) := by omega
      have p1 : (j : Int) < (t.f3.length : Int) := by omega
      have hr := H.out
      rw [List.drop_eq_getElem_cons hjn, code_wr.all] at hr
      obtain ⟨s2, hs2, hr2⟩ := Option.bind_eq_some_iff.mp hr
      clear hr
      obtain ⟨O5, _, hi5, hk5, hb5, ho5⟩ := HP.out
      obtain ⟨ad, A3, c3, e0, m0, m1, m2, m3, m4, m5, hl3, hc3⟩ := code_wr.at_ (Kd.F_kept HT1.out hk5 (fun q (hq : q < B) ho => by have := (HOW.out q ho).1; omega)) j hjn
      obtain ⟨X, hXe⟩ : ∃ X, X = t.f3[j] := ⟨_, rfl⟩
      rw [← hXe] at hs2 m0 m1 m2 m3 m4 m5 hl3 hc3
      clear hXe
      subst e0
      have hwj : IntKind.i64.wrap ((j : Int) + 1) = ((j + 1 : Nat) : Int) := by
        rw [IntWalk.i64_in _ (by have := HS.out; omega)]
        omega
      have HZW : Aside0 (∀ o, B ≤ (wr.alloc o).heap.size) := ⟨fun o => by have := HBW.out; have := hk5.1; simp; omega⟩
      have HFW : Aside0 (∀ o, Kd.F k25 (wr.alloc o) (fun q => q < B) A3 X.f3.length X.f3) := ⟨fun o => Kd.F_below hc3 (below_alloc (Below.refl _ _) _)⟩
      have HIW : Aside0 (∀ o, code_wr.I B g (wr.alloc o) s'.1 s'.2 O5) := ⟨fun o => code_wr.move hi5 (below_alloc (Below.refl _ _) _)⟩
      have HNW : Aside0 (∀ o {b e x w2}, code_wr.Post B g (wr.alloc o) O5 b e x w2 → code_wr.Post B g W1 O b e x w2) := ⟨fun o {b e x w2} h => code_wr.then_ hk5 hb5 ho5 (code_wr.then_ ((Kept.refl wr O5).below (below_alloc (Below.refl _ _) _)) (Below.mono (below_alloc (Below.refl wr.heap.size _) _) (Nat.le_trans HBW.out hk5.1)) (fun q hlt hq => hq) h)⟩
      have HL3 := Aside0.mk hl3
      have HS2 := Aside0.mk hs2
      have HR := Aside0.mk hr2
      clear hl3 hs2 hr2 hc3 hi5 hk5 hb5 ho5 H HP hjn
      go_wp2_with (go_at_call 32; (with_reducible refine (HIH.out B g X A3 c3 (lv + 1) s' s2 O5 _ (HZW.out _) (HFW.out _) HL3.out (HIW.out _) HS2.out).mono ?_); rintro y w5 ⟨O6, rfl, hi6, hk6, hb6, ho6⟩; (have HP6 : Aside0 (code_wr.Post B g W1 O s2.1 s2.2 (.returned (.tuple #[])) w5) := ⟨HNW.out _ ⟨O6, rfl, hi6, hk6, hb6, ho6⟩⟩); clear hi6 hk6 hb6 ho6)
      go_roundg q
      case measure => omega
      case rel => exact ⟨j + 1, s2, rfl, by omega, HR, HP6⟩
set_option maxHeartbeats 4000000 in
set_option maxRecDepth 100000 in
theorem code_wr.done_calls (B g : Nat) (b : List Int) (e : Int) (O : Nat → Prop) (w : World) (hI : code_wr.I B g w b e O) :
    Calls Try.prog 33 #[.pointer (some ⟨g, 0, none⟩)] w fun x w' => ∃ v : Value, x = .returned (.tuple #[v, .int .i64 e]) ∧ Kd.V (Kd.int .u8) 5 w' B (fun q => B ≤ q) v (if e = 0 then b else []) ∧ Below w.heap.size w w' := by
  have hu := Try.underlying65
  obtain ⟨vb, h1, h2, h3, h4⟩ := hI
  obtain ⟨A, c, rfl⟩ := Kd.N_slice h3
  have x0 : w.cell? ⟨g, 0, none⟩ = some (.slice A b.length c) := (blk_cell h1 0).trans rfl
  have x1 : w.cell? ⟨g, 1, none⟩ = some (.int .i64 e) := (blk_cell h1 1).trans rfl
  have H3 := Aside0.mk h3
  clear h1 h2 h3 h4
  by_cases he : e = 0
  · subst he
    rw [if_pos rfl]
    go_enter Try.func33, Try.ntmps33
    go_wp2
    go_ret2
    exact ⟨_, rfl, Kd.V_mono (Kd.N_V H3.out) (fun q hq => hq.1), Below.refl _ _⟩
  · have heb : (e != 0) = true := by simpa using he
    rw [if_neg he]
    clear he
    go_enter Try.func33, Try.ntmps33
    go_upto_region 2 with (fail)
    go_quiet (fail)
    try go_wp2
    go_ret2
    exact ⟨_, rfl, Kd.V_nil _ _ _ _ _, pw_below_drewN (Below.refl _ _) _⟩

-- NOT PRINTED: function 32 (code_writer_term)

-- NOT PRINTED: function 33 (code_writer_done)

/-! ### code_Term: function 10 (given) -/
theorem code_Term.heap : Kd.Heap k25 := Kd.heap_fix (fun d hd => Kd.heap_iso _ (Kd.heap_pair (Kd.heap_int _) (Kd.heap_pair (Kd.heap_int _) (Kd.heap_pair Kd.heap_string (Kd.heap_pair (Kd.heap_slice _ hd) (Kd.heap_pair (Kd.heap_int _) (Kd.heap_int _)))))))
def code_Term.f (k : Nat) (a0 a1 : Int) (a2 : ByteArray) (a3 : List S25) (a4 a5 : Int) : Option (List Int × Int) := (code_wr.term k ⟨a0, a1, a2, a3, a4, a5⟩ 1 ([], 0)).bind fun s => some (if s.2 = 0 then s.1 else [], s.2)
set_option maxHeartbeats 4000000 in
set_option maxRecDepth 100000 in
theorem code_Term.calls (k : Nat) (a0 a1 : Int) (a2 : ByteArray) (A : Option Addr) (c : Nat) (a3 : List S25) (a4 a5 : Int) (r1 : List Int) (r2 : Int) (w : World) (hA : Kd.C k25 w A a3.length a3) (hc : a3.length ≤ c) (h : code_Term.f k a0 a1 a2 a3 a4 a5 = some (r1, r2)) :
    Calls Try.prog 10 #[.agg #[.int .i64 a0, .int .i64 a1, .string a2, .slice A a3.length c, .int .i64 a4, .int .i64 a5]] w fun e w' => ∃ v0_ : Value, e = .returned (.tuple #[v0_, .int .i64 r2]) ∧ Kd.V (Kd.int .u8) 5 w' w.heap.size (fun k_ => (w.heap.size ≤ k_)) v0_ r1 ∧ Below w.heap.size w w' := by
  have hu := Try.underlying65
  obtain ⟨s, hs, h⟩ := Option.bind_eq_some_iff.mp h
  have e := Option.some.inj h
  simp only [Prod.mk.injEq] at e
  obtain ⟨e1, rfl⟩ := e
  have E1 := Aside0.mk e1
  clear e1
  obtain ⟨W2, hW2⟩ : ∃ W2 : World, W2 = (w.alloc (.cells #[.int .i64 a0, .int .i64 a1, .string a2, .slice A a3.length c, .int .i64 a4, .int .i64 a5] 25)).alloc (.cells #[.slice none 0 0, .int .i64 0] 65) := ⟨_, rfl⟩
  have hz : (w.alloc (.cells #[.int .i64 a0, .int .i64 a1, .string a2, .slice A a3.length c, .int .i64 a4, .int .i64 a5] 25)).heap.size = w.heap.size + 1 := by simp
  have hb2 : Below w.heap.size w W2 := by rw [hW2]; exact below_alloc (below_alloc (Below.refl _ _) _) _
  have hi : code_wr.I w.heap.size (w.heap.size + 1) W2 [] 0 (fun q => q = w.heap.size + 1) := by
    refine ⟨.slice none 0 0, ?_, by omega, Kd.N_nil _ _ _ _ _, fun q => ?_⟩
    · rw [hW2, ← hz]; exact blk_new _ _
    · simp [Value.ownBlock]
  have HI := Aside0.mk hi
  have HB2 := Aside0.mk hb2
  have HS := Aside0.mk hs
  have HF := Aside0.mk (Kd.F_below (Kd.C_F code_Term.heap hA) hb2)
  have HC := Aside0.mk hc
  clear hs hA hc h hi hb2 hz
  go_enter Try.func10, Try.ntmps10
  go_wp2_with (first | (go_at_call 33; (with_reducible refine (code_wr.done_calls w.heap.size (w.heap.size + 1) s.1 s.2 O3 _ HI3.out).mono ?_); rintro y w4 ⟨v, rfl, hv4, hb4⟩; rw [E1.out] at hv4; (have HV4 := Aside0.mk hv4); (have HB4 := Aside0.mk (below_step HB3.out hb4)); clear hv4 hb4) | (rw [← hW2]; go_at_call 32; (with_reducible refine (code_wr.term_calls k w.heap.size (w.heap.size + 1) ⟨a0, a1, a2, a3, a4, a5⟩ A c 1 ([], 0) s _ _ HB2.out.size HF.out HC.out HI.out HS.out).mono ?_); rintro y w3 ⟨O3, rfl, hi3, hk3, hb3, ho3⟩; (have HI3 := Aside0.mk hi3); (have HB3 := Aside0.mk (HB2.out.trans hb3)); clear hi3 hk3 hb3 ho3))
  go_ret2
  exact ⟨_, rfl, HV4.out, HB4.out⟩

/-! ### notarylaw36_awake: function 9 -/
def notarylaw36_awake.f (k : Nat)  : Option (Bool) := (code_Term.f k 5 3 (⟨#[]⟩ : ByteArray) ([] : List (S25)) 0 0).bind fun bt119 => (if bt119.2 = 0 then (if (bt119.1.length : Int) = 3 then (if 0 < (bt119.1.length : Int) then (if (rd bt119.1 0) = 5 then (if 1 < (bt119.1.length : Int) then (if (rd bt119.1 1) = 6 then (if 2 < (bt119.1.length : Int) then (some ((rd bt119.1 2) == 0)) else (none)) else (some false)) else (none)) else (some false)) else (none)) else (some false)) else (some false))
set_option maxHeartbeats 8000000 in
set_option maxRecDepth 100000 in
theorem notarylaw36_awake.calls (k : Nat)  (r : Bool) (w : World) (h : notarylaw36_awake.f k  = some r) :
    Calls Try.prog 9 #[] w fun e w' => e = .returned (.bool r) ∧ Below w.heap.size w w' := by
  have hu25 := Try.underlying25
  have HB := Aside0.mk (Below.refl w.heap.size w)
  have H : ((code_Term.f k 5 3 (⟨#[]⟩ : ByteArray) ([] : List (S25)) 0 0).bind fun bt119 => (if bt119.2 = 0 then (if (bt119.1.length : Int) = 3 then (if 0 < (bt119.1.length : Int) then (if (rd bt119.1 0) = 5 then (if 1 < (bt119.1.length : Int) then (if (rd bt119.1 1) = 6 then (if 2 < (bt119.1.length : Int) then (some ((rd bt119.1 2) == 0)) else (none)) else (some false)) else (none)) else (some false)) else (none)) else (some false)) else (some false))) = some r := h
  clear h
  replace H := Option.bind_eq_some_iff.mp H
  obtain ⟨⟨t119, t122⟩, A10, H⟩ := H
  replace H : (if t122 = 0 then (if (t119.length : Int) = 3 then (if 0 < (t119.length : Int) then (if (rd t119 0) = 5 then (if 1 < (t119.length : Int) then (if (rd t119 1) = 6 then (if 2 < (t119.length : Int) then (some ((rd t119 2) == 0)) else (none)) else (some false)) else (none)) else (some false)) else (none)) else (some false)) else (some false)) = some r := H
  have A1 := Aside0.mk A10
  clear A10
  by_cases c2 : t122 = 0
  rotate_left
  · rw [if_neg c2] at H
    have c2b0 : (t122 == 0) = false := beq_eq_false_iff_ne.mpr c2
    have c2b1 : (t122 != 0) = true := bne_iff_ne.mpr c2
    obtain rfl := Option.some.inj H
    go_enter Try.func9, Try.ntmps9
    go_wp2_with ((((with_reducible refine gate_callee (f := 10) rfl ?_); refine goesL_ (some 5) rfl rfl Try.func10 (by kernel_rfl) rfl #[.agg #[.int .i64 5, .int .i64 3, .string (⟨#[]⟩ : ByteArray), .slice none 0 0, .int .i64 0, .int .i64 0]] rfl (by (try simp only [List.map_toArray, List.map_cons, List.map_nil]); (rfl)) ?_; (refine (code_Term.calls k 5 3 (⟨#[]⟩ : ByteArray) _ _ ([] : List (S25)) 0 0 t119 t122 _ ?side1 ?side2 A1.out).mono ?_); (case side1 => exact Kd.C_nil _ _); (case side2 => exact Nat.le_refl _); rintro e w17 ⟨v120, rfl, ho0, hb⟩; refine ⟨_, rfl, ?_⟩; have n0_ := Aside0.mk (Kd.V_lower (Kd.V_mono (ok' := fun k_ => True) ho0 (fun k_ hk_ => trivial)) (below_size HB.out)); have n1_ := Aside0.mk (below_step HB.out hb); clear HB; have HO121 := n0_; have HB := n1_; clear n0_ n1_; (try clear hb); (try clear ho0))))
    go_ret
    exact ⟨by (rfl), HB.out⟩

  rw [if_pos c2] at H
  have c2b0 : (t122 == 0) = true := beq_iff_eq.mpr c2
  have c2b1 : (t122 != 0) = false := bne_eq_false_iff_eq.mpr c2
  clear c2
  by_cases c3 : (t119.length : Int) = 3
  rotate_left
  · rw [if_neg c3] at H
    have c3b0 : ((t119.length : Int) == 3) = false := beq_eq_false_iff_ne.mpr c3
    have c3b1 : ((t119.length : Int) != 3) = true := bne_iff_ne.mpr c3
    obtain rfl := Option.some.inj H
    go_enter Try.func9, Try.ntmps9
    go_wp2_with ((((with_reducible refine gate_callee (f := 10) rfl ?_); refine goesL_ (some 5) rfl rfl Try.func10 (by kernel_rfl) rfl #[.agg #[.int .i64 5, .int .i64 3, .string (⟨#[]⟩ : ByteArray), .slice none 0 0, .int .i64 0, .int .i64 0]] rfl (by (try simp only [List.map_toArray, List.map_cons, List.map_nil]); (rfl)) ?_; (refine (code_Term.calls k 5 3 (⟨#[]⟩ : ByteArray) _ _ ([] : List (S25)) 0 0 t119 t122 _ ?side1 ?side2 A1.out).mono ?_); (case side1 => exact Kd.C_nil _ _); (case side2 => exact Nat.le_refl _); rintro e w15 ⟨v120, rfl, ho0, hb⟩; refine ⟨_, rfl, ?_⟩; have n0_ := Aside0.mk (Kd.V_lower (Kd.V_mono (ok' := fun k_ => True) ho0 (fun k_ hk_ => trivial)) (below_size HB.out)); have n1_ := Aside0.mk (below_step HB.out hb); clear HB; have HO121 := n0_; have HB := n1_; clear n0_ n1_; (try clear hb); (try clear ho0); obtain ⟨Ao16, co16, eo16⟩ := Kd.V_slice HO121.out; subst eo16)))
    go_ret
    exact ⟨by (rfl), HB.out⟩
  rw [if_pos c3] at H
  have c3b0 : ((t119.length : Int) == 3) = true := beq_iff_eq.mpr c3
  have c3b1 : ((t119.length : Int) != 3) = false := bne_eq_false_iff_eq.mpr c3
  clear c3
  by_cases c4 : 0 < (t119.length : Int)
  rotate_left
  · rw [if_neg c4] at H
    exact absurd H (by simp)
  rw [if_pos c4] at H
  have c4b0 : decide (0 < (t119.length : Int)) = true := decide_eq_true c4
  have c4b1 : decide (0 < t119.length) = true := decide_eq_true (by omega)
  clear c4
  by_cases c5 : (rd t119 0) = 5
  rotate_left
  · rw [if_neg c5] at H
    have c5b0 : ((rd t119 0) == 5) = false := beq_eq_false_iff_ne.mpr c5
    have c5b1 : ((rd t119 0) != 5) = true := bne_iff_ne.mpr c5
    obtain rfl := Option.some.inj H
    go_enter Try.func9, Try.ntmps9
    go_wp2_with ((((with_reducible refine gate_callee (f := 10) rfl ?_); refine goesL_ (some 5) rfl rfl Try.func10 (by kernel_rfl) rfl #[.agg #[.int .i64 5, .int .i64 3, .string (⟨#[]⟩ : ByteArray), .slice none 0 0, .int .i64 0, .int .i64 0]] rfl (by (try simp only [List.map_toArray, List.map_cons, List.map_nil]); (rfl)) ?_; (refine (code_Term.calls k 5 3 (⟨#[]⟩ : ByteArray) _ _ ([] : List (S25)) 0 0 t119 t122 _ ?side1 ?side2 A1.out).mono ?_); (case side1 => exact Kd.C_nil _ _); (case side2 => exact Nat.le_refl _); rintro e w13 ⟨v120, rfl, ho0, hb⟩; refine ⟨_, rfl, ?_⟩; have n0_ := Aside0.mk (Kd.V_lower (Kd.V_mono (ok' := fun k_ => True) ho0 (fun k_ hk_ => trivial)) (below_size HB.out)); have n1_ := Aside0.mk (below_step HB.out hb); clear HB; have HO121 := n0_; have HB := n1_; clear n0_ n1_; (try clear hb); (try clear ho0); obtain ⟨Ao14, co14, eo14⟩ := Kd.V_slice HO121.out; subst eo14; have p123 : 0 ≤ (0 : Int) := (by omega); have q123 : 0 < (t119.length : Int) := of_decide_eq_true (by (with_reducible assumption)); obtain ⟨ad123, e123, hx123_0⟩ := Kd.at_int (Kd.V_reads' HO121.out).2.2 0 p123 q123; cases e123; have qi123 : (0 < t119.length) = True := eq_true (by omega); (try rw [show (0 : Int).toNat = 0 from rfl] at hx123_0); (try rw [Addr.add_zero'] at hx123_0); replace p123 := eq_true p123; replace q123 := eq_true q123)))
    go_ret
    exact ⟨by (rfl), HB.out⟩
  rw [if_pos c5] at H
  have c5b0 : ((rd t119 0) == 5) = true := beq_iff_eq.mpr c5
  have c5b1 : ((rd t119 0) != 5) = false := bne_eq_false_iff_eq.mpr c5
  clear c5
  by_cases c6 : 1 < (t119.length : Int)
  rotate_left
  · rw [if_neg c6] at H
    exact absurd H (by simp)
  rw [if_pos c6] at H
  have c6b0 : decide (1 < (t119.length : Int)) = true := decide_eq_true c6
  have c6b1 : decide (1 < t119.length) = true := decide_eq_true (by omega)
  clear c6
  by_cases c7 : (rd t119 1) = 6
  rotate_left
  · rw [if_neg c7] at H
    have c7b0 : ((rd t119 1) == 6) = false := beq_eq_false_iff_ne.mpr c7
    have c7b1 : ((rd t119 1) != 6) = true := bne_iff_ne.mpr c7
    obtain rfl := Option.some.inj H
    go_enter Try.func9, Try.ntmps9
    go_wp2_with ((((with_reducible refine gate_callee (f := 10) rfl ?_); refine goesL_ (some 5) rfl rfl Try.func10 (by kernel_rfl) rfl #[.agg #[.int .i64 5, .int .i64 3, .string (⟨#[]⟩ : ByteArray), .slice none 0 0, .int .i64 0, .int .i64 0]] rfl (by (try simp only [List.map_toArray, List.map_cons, List.map_nil]); (rfl)) ?_; (refine (code_Term.calls k 5 3 (⟨#[]⟩ : ByteArray) _ _ ([] : List (S25)) 0 0 t119 t122 _ ?side1 ?side2 A1.out).mono ?_); (case side1 => exact Kd.C_nil _ _); (case side2 => exact Nat.le_refl _); rintro e w11 ⟨v120, rfl, ho0, hb⟩; refine ⟨_, rfl, ?_⟩; have n0_ := Aside0.mk (Kd.V_lower (Kd.V_mono (ok' := fun k_ => True) ho0 (fun k_ hk_ => trivial)) (below_size HB.out)); have n1_ := Aside0.mk (below_step HB.out hb); clear HB; have HO121 := n0_; have HB := n1_; clear n0_ n1_; (try clear hb); (try clear ho0); obtain ⟨Ao12, co12, eo12⟩ := Kd.V_slice HO121.out; subst eo12; have p123 : 0 ≤ (0 : Int) := (by omega); have q123 : 0 < (t119.length : Int) := of_decide_eq_true (by (with_reducible assumption)); obtain ⟨ad123, e123, hx123_0⟩ := Kd.at_int (Kd.V_reads' HO121.out).2.2 0 p123 q123; cases e123; have qi123 : (0 < t119.length) = True := eq_true (by omega); (try rw [show (0 : Int).toNat = 0 from rfl] at hx123_0); (try rw [Addr.add_zero'] at hx123_0); replace p123 := eq_true p123; replace q123 := eq_true q123; have p124 : 0 ≤ (1 : Int) := (by omega); have q124 : 1 < (t119.length : Int) := of_decide_eq_true (by (with_reducible assumption)); obtain ⟨ad124, e124, hx124_0⟩ := Kd.at_int (Kd.V_reads' HO121.out).2.2 1 p124 q124; obtain rfl : ad123 = ad124 := (by injection e124); (try simp only [show (1 : Int).toNat = 1 from rfl, Nat.reduceMul, Nat.reduceEqDiff, Go.Addr.add, ↓reduceIte] at hx124_0); have qi124 : (1 < t119.length) = True := eq_true (by omega); replace p124 := eq_true p124; replace q124 := eq_true q124)))
    go_ret
    exact ⟨by (rfl), HB.out⟩
  rw [if_pos c7] at H
  have c7b0 : ((rd t119 1) == 6) = true := beq_iff_eq.mpr c7
  have c7b1 : ((rd t119 1) != 6) = false := bne_eq_false_iff_eq.mpr c7
  clear c7
  by_cases c8 : 2 < (t119.length : Int)
  rotate_left
  · rw [if_neg c8] at H
    exact absurd H (by simp)
  rw [if_pos c8] at H
  have c8b0 : decide (2 < (t119.length : Int)) = true := decide_eq_true c8
  have c8b1 : decide (2 < t119.length) = true := decide_eq_true (by omega)
  clear c8
  obtain rfl := Option.some.inj H
  go_enter Try.func9, Try.ntmps9
  go_wp2_with ((((with_reducible refine gate_callee (f := 10) rfl ?_); refine goesL_ (some 5) rfl rfl Try.func10 (by kernel_rfl) rfl #[.agg #[.int .i64 5, .int .i64 3, .string (⟨#[]⟩ : ByteArray), .slice none 0 0, .int .i64 0, .int .i64 0]] rfl (by (try simp only [List.map_toArray, List.map_cons, List.map_nil]); (rfl)) ?_; (refine (code_Term.calls k 5 3 (⟨#[]⟩ : ByteArray) _ _ ([] : List (S25)) 0 0 t119 t122 _ ?side1 ?side2 A1.out).mono ?_); (case side1 => exact Kd.C_nil _ _); (case side2 => exact Nat.le_refl _); rintro e w9 ⟨v120, rfl, ho0, hb⟩; refine ⟨_, rfl, ?_⟩; have n0_ := Aside0.mk (Kd.V_lower (Kd.V_mono (ok' := fun k_ => True) ho0 (fun k_ hk_ => trivial)) (below_size HB.out)); have n1_ := Aside0.mk (below_step HB.out hb); clear HB; have HO121 := n0_; have HB := n1_; clear n0_ n1_; (try clear hb); (try clear ho0); obtain ⟨Ao10, co10, eo10⟩ := Kd.V_slice HO121.out; subst eo10; have p123 : 0 ≤ (0 : Int) := (by omega); have q123 : 0 < (t119.length : Int) := of_decide_eq_true (by (with_reducible assumption)); obtain ⟨ad123, e123, hx123_0⟩ := Kd.at_int (Kd.V_reads' HO121.out).2.2 0 p123 q123; cases e123; have qi123 : (0 < t119.length) = True := eq_true (by omega); (try rw [show (0 : Int).toNat = 0 from rfl] at hx123_0); (try rw [Addr.add_zero'] at hx123_0); replace p123 := eq_true p123; replace q123 := eq_true q123; have p124 : 0 ≤ (1 : Int) := (by omega); have q124 : 1 < (t119.length : Int) := of_decide_eq_true (by (with_reducible assumption)); obtain ⟨ad124, e124, hx124_0⟩ := Kd.at_int (Kd.V_reads' HO121.out).2.2 1 p124 q124; obtain rfl : ad123 = ad124 := (by injection e124); (try simp only [show (1 : Int).toNat = 1 from rfl, Nat.reduceMul, Nat.reduceEqDiff, Go.Addr.add, ↓reduceIte] at hx124_0); have qi124 : (1 < t119.length) = True := eq_true (by omega); replace p124 := eq_true p124; replace q124 := eq_true q124; have p125 : 0 ≤ (2 : Int) := (by omega); have q125 : 2 < (t119.length : Int) := of_decide_eq_true (by (with_reducible assumption)); obtain ⟨ad125, e125, hx125_0⟩ := Kd.at_int (Kd.V_reads' HO121.out).2.2 2 p125 q125; obtain rfl : ad123 = ad125 := (by injection e125); (try simp only [show (2 : Int).toNat = 2 from rfl, Nat.reduceMul, Nat.reduceEqDiff, Go.Addr.add, ↓reduceIte] at hx125_0); have qi125 : (2 < t119.length) = True := eq_true (by omega); replace p125 := eq_true p125; replace q125 := eq_true q125)))
  go_ret
  exact ⟨by (rfl), HB.out⟩
end Go.Proofs.Ytiamcmjdoobaeaa.PCe
