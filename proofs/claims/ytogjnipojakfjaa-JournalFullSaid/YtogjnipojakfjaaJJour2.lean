/- The journal: what its functions do to it. -/
import Derived.Test.YtogjnipojakfjaaJJour
import Derived.Test.YtogjnipojakfjaaPJnx3
import Derived.Test.YtogjnipojakfjaaPJnx4
import Derived.Test.YtogjnipojakfjaaPJnx5
namespace Go.Proofs.Ytogjnipojakfjaa.JJour
open Go.RowKit Go.Proofs.Ytogjnipojakfjaa.PJn Go.Proofs.YtogjnipojakfjaaW.PrintWords Go.Proofs.YtogjnipojakfjaaW.PrintLast Go.Proofs.YtogjnipojakfjaaW.PrintMore
open LSame (Byt)
open LChain (msgS tagS zeroT)
open DDev (Dev dev_below dev_kept dev_drewN dev_mono T8 TD heldN)
set_option linter.unusedVariables false
set_option linter.unusedSimpArgs false

theorem step {P : Program} {ops : Array Oper} {o : Oper} {a : Act} {Q : Exit → Act → World → Prop} {Kc : Act → World → Prop} {E : Prop} {α : Type} (d : Kd α) {W : World} (base : Nat) (hg : o.guard = none) (s x : Operand) (t e : TypeId) (z : Value) (bytes : Nat)
    (ho : o.op = .call { callee := .builtin .append, args := #[s, x], argTypes := #[t, t] })
    (ht : P.underlying t = some (.slice e)) (hinfo : (P.info? e).map (fun i => (i.zero, i.size, i.bytes)) = some (some z, d.sz, bytes)) (hz : z.cells.size = d.sz) (hs0 : 0 < d.sz) (hb0 : 0 < bytes)
    (v : Value) (xs : List α) (p : α) (cs : List Value) (ok okp : Nat → Prop) (hs : a.eval s = v) (hx : a.eval x = .slice (some ⟨W.heap.size, 0, none⟩) 1 1) (hp : Kd.FK d W okp p cs) (hokp : ∀ k, okp k → ok k ∧ some k ≠ v.ownBlock) (hfresh : ∀ k, W.heap.size ≤ k → ok k)
    (HO : Kd.N d e W base ok v xs) (hbase : base ≤ W.heap.size) (hl : (xs.length + 1) * bytes ≤ 140737488355328)
    (h : ∀ v1 w1, Kd.N d e w1 base ok v1 (xs ++ [p]) → Below base W w1 → W.grownBy w1 v.ownBlock → (v1.ownBlock = v.ownBlock ∨ ∃ b, v1.ownBlock = some b ∧ W.heap.size ≤ b) → Kc (a.put o.dst v1) w1) :
    if Region.wanted o (yielded ops a.tmps) = true then Oper.wp P o a (W.alloc (.cells cs.toArray e)) Kc Q else E := by
  have hw : Region.wanted o (yielded ops a.tmps) = true := by simp [Region.wanted, hg]
  have := Kd.N_append_step (ops := ops) (Q := Q) (w0 := W) d base hw s x t e z bytes ho ht hinfo hz hs0 hb0 v xs p cs ok okp hs hx hp hokp hfresh HO (Below.refl _ _) hbase hl h
  rw [if_pos hw] at this ⊢
  exact this
theorem mk_EF (W : World) (ok : Nat → Prop) (x : Ent) {A1 : Option Addr} {c1 : Nat} (l1 : x.f1.length ≤ c1) (g1 : Kd.F (Kd.int .u8) W ok A1 x.f1.length x.f1) : Kd.FK kE W ok x [.int .i64 x.f0, .slice A1 x.f1.length c1] := fun W2 hW => k35_mk W2 x l1 (g1 W2 hW)
theorem ok_new {W : World} {B gj gd q : Nat} {O : Nat → Prop} {vb : Value} (h1 : gj < W.heap.size) (h2 : gd < W.heap.size) (hO : ∀ q, O q → B ≤ q ∧ q < W.heap.size) (hb : some q = vb.ownBlock → O q) (hB : B ≤ W.heap.size) (hq : W.heap.size ≤ q) : B ≤ q ∧ q ≠ gj ∧ q ≠ gd ∧ some q ≠ vb.ownBlock :=
  ⟨by omega, by omega, by omega, fun e => by have := hO q (hb e); omega⟩
set_option maxHeartbeats 8000000 in
set_option maxRecDepth 100000 in
theorem take.calls (B gj gd : Nat) (O : Nat → Prop) (s : St) (hn : s.n < 1000000) (hL : s.L.length < 1000000) (e : Ent) (hel : e.f1.length ≤ 100000) (Ab : Option Addr) (cb : Nat) (t : List Int) (A2 : Option Addr) (c2 : Nat) (W : World)
    (h : Jn W B gj gd O s) (hB : B ≤ W.heap.size) (hcb : e.f1.length ≤ cb) (hE : Kd.C (Kd.int .u8) W Ab e.f1.length e.f1) (hc2 : t.length ≤ c2) (hT : Kd.F (Kd.int .u8) W (fun q => ¬ O q) A2 t.length t) :
    Calls Try.prog 38 #[.pointer (some ⟨gj, 0, none⟩), .agg #[.int .i64 e.f0, .slice Ab e.f1.length cb], .slice A2 t.length c2] W fun x w' => x = .returned (.tuple #[]) ∧ ∃ O', Jn w' B gj gd O' { s with n := s.n + 1, tag := t, L := s.L ++ [e] } ∧ Kept W w' O ∧ (∀ q, q < W.heap.size → O' q → O q) ∧ Below B W w' := by
  have hown := jn_own h
  obtain ⟨vb, vl, At, ct, Ak, ck, h1, h2, h3, h4, ⟨h5, h6⟩, ⟨h7, h8⟩, h9⟩ := h
  have hcl : slices_Clone_byte_byte.f e.f1 = some e.f1 := by unfold slices_Clone_byte_byte.f; rw [if_pos (by omega)]
  have hgjl := blk_lt h1
  have hgdl := DDev.dev_lt h2
  have hgv : some gj ≠ vl.ownBlock := Kd.N_away h4 (fun k hk => hk.2.1)
  have hgdv : some gd ≠ vl.ownBlock := Kd.N_away h4 (fun k hk => hk.2.2.1)
  have hgjd : gj ≠ gd := blk_ne h1 h2.1 (by decide)
  have hgjb : some gj ≠ vb.ownBlock := Kd.R_ne h2.2.2.2 h1 (by decide)
  obtain ⟨W1, hW1⟩ : ∃ W1 : World, W1 = W.alloc (.cells #[.int .i64 e.f0, .slice Ab e.f1.length cb] TE) := ⟨_, rfl⟩
  have hb1 : Below W.heap.size W W1 := by rw [hW1]; exact below_alloc (Below.refl _ _) _
  have hs1 : W1.heap.size = W.heap.size + 1 := by rw [hW1]; simp
  have hx1 : W1.heap[W.heap.size]? = some (.cells #[.int .i64 e.f0, .slice Ab e.f1.length cb] TE (0, 0)) := by rw [hW1]; exact blk_new _ _
  have x1 : W1.cell? ⟨W.heap.size, 1, none⟩ = some (.slice Ab e.f1.length cb) := (blk_cell hx1 1).trans rfl
  have HX1 := Aside0.mk hx1
  have HB1 := Aside0.mk hb1
  have HS1 := Aside0.mk hs1
  have HE := Aside0.mk (Kd.C_below hE hb1)
  have HCB := Aside0.mk hcb
  have HCL := Aside0.mk hcl
  have HO := Aside0.mk hown
  have H1 := Aside0.mk h1
  have H2 := Aside0.mk h2
  have H3 := Aside0.mk h3
  have H4 := Aside0.mk h4
  have H56 := Aside0.mk (And.intro h5 h6)
  have H78 := Aside0.mk (And.intro h7 h8)
  have H9 := Aside0.mk h9
  have HT := Aside0.mk (And.intro hc2 hT)
  have HB := Aside0.mk hB
  have HN := Aside0.mk (And.intro hn hL)
  have HG := Aside0.mk (And.intro hgjl (And.intro hgdl (And.intro hgv (And.intro hgdv (And.intro hgjd hgjb)))))
  clear hown h1 h2 h3 h4 h5 h6 h7 h8 h9 hcl hgjl hgdl hgv hgdv hgjd hgjb hb1 hs1 hx1 hE hcb hc2 hT hB hel hn hL
  go_enter Try.func38, Try.ntmps38
  go_upto_region 1 with (fail)
  try simp only [← hW1]
  clear hW1
  go_upto_region 2 with (go_at_call 33; (with_reducible refine (slices_Clone_byte_byte.calls Ab cb e.f1 e.f1 _ (Kd.C_below HE.out (by with_reducible repeat (first | exact Below.refl _ _ | apply below_alloc | apply below_drew))) HCB.out HCL.out).mono ?_); rintro e2 w2 ⟨v2, rfl, ho2, hb2⟩; (obtain ⟨A3, c3, rfl⟩ := Kd.R_slice ho2); (have HB2 : Aside0 (Below W1.heap.size W1 w2) := ⟨below_step (by with_reducible repeat (first | exact Below.refl _ _ | apply below_alloc | apply below_drew)) hb2⟩); (have HO2 : Aside0 (Kd.R (Kd.int .u8) T8 w2 W1.heap.size (fun _ => True) (.slice A3 e.f1.length c3) e.f1) := ⟨ho2⟩); (have y1 : w2.cell? ⟨W.heap.size, 1, none⟩ = some (.slice Ab e.f1.length cb) := pw_cell_below HB2.out x1); (have y2 : w2.frozen? ⟨W.heap.size, 1, none⟩ = false := blk_frozen (blk_below HX1.out HB2.out) 1); clear ho2 hb2)
  obtain ⟨W3, hW3⟩ : ∃ W3 : World, W3 = w2.setCell ⟨W.heap.size, 1, none⟩ (.slice A3 e.f1.length c3) := ⟨_, rfl⟩
  have hb3 : Below W.heap.size W W3 := by rw [hW3]; exact below_set (HB1.out.trans (HB2.out.mono HB1.out.size)) (Nat.le_refl _)
  have hx3 : W3.heap[W.heap.size]? = some (.cells #[.int .i64 e.f0, .slice A3 e.f1.length c3] TE (0, 0)) := by rw [hW3]; exact blk_put (blk_below HX1.out HB2.out) 1 _ rfl
  have hf2 : Kd.F (Kd.int .u8) w2 (fun q => W.heap.size < q) A3 e.f1.length e.f1 := Kd.F_mono (Kd.R_F (Kd.R_bound HO2.out)) (fun q hq => by
    have h1 : W1.heap.size ≤ q := hq.2.1
    have h2 := HS1.out
    show W.heap.size < q
    omega)
  have hf3 : Kd.F (Kd.int .u8) W3 (fun q => W.heap.size < q) A3 e.f1.length e.f1 := by
    rw [hW3]
    exact Kd.F_far (p := ⟨W.heap.size, 1, none⟩) hf2 (fun k hk => Nat.ne_of_gt hk) _
  have HL3 : Aside0 (e.f1.length ≤ c3) := ⟨(Kd.R_reads' HO2.out).2.1⟩
  rw [← hW3]
  have HB3 := Aside0.mk hb3
  have HF3 := Aside0.mk hf3
  have HX3 := Aside0.mk hx3
  have HG3 := Aside0.mk (blk_below H1.out hb3)
  have HN3 := Aside0.mk (Kd.N_below H4.out hb3)
  have z4 : W3.cell? ⟨gj, 4, none⟩ = some vl := (blk_cell HG3.out 4).trans rfl
  have x3 : W3.cell? ⟨W.heap.size, 0, none⟩ = some (.int .i64 e.f0) := (blk_cell hx3 0).trans rfl
  have x4 : W3.cell? ⟨W.heap.size, 1, none⟩ = some (.slice A3 e.f1.length c3) := (blk_cell hx3 1).trans rfl
  clear hW3 hb3 hx3 hf2 hf3 HO2 x1 y1 y2
  refine start_ (n := 11) (S := fun w' => w'.cell? ⟨gj, 4, none⟩ = some vl ∧ w'.cell? ⟨W.heap.size, 0, none⟩ = some (.int .i64 e.f0) ∧ w'.cell? ⟨W.heap.size, 1, none⟩ = some (.slice A3 e.f1.length c3)) (ds := [10]) #[false, false, false, false, false, false, false, false, false, false, false] (by kernel_rfl) rfl rfl ⟨z4, x3, x4⟩ (fun hHeld => ?_)
  refine pure_ (i := 0) (N := some 10) (v := ?_) (a' := ?_) #[true, false, false, false, false, false, false, false, false, false, false] rfl rfl (by kernel_rfl) (fun _ _ _ h => h) (Or.inl ⟨by rfl, ?_⟩) ?_ ?_
  rotate_left
  · intro w'
    go_simp
    with_reducible rfl
  rotate_left
  · simp only [Act.put, List.setIfInBounds_toArray, List.set_cons_zero, List.set_cons_succ, i64_w, i32_w]
    rfl
  refine pure_ (i := 1) (N := some 11) (v := ?_) (a' := ?_) #[true, true, false, false, false, false, false, false, false, false, false] rfl rfl (by kernel_rfl) (fun _ _ _ h => h) (Or.inl ⟨by rfl, ?_⟩) ?_ ?_
  rotate_left
  · intro w'
    go_simp
    with_reducible rfl
  rotate_left
  · simp only [Act.put, List.setIfInBounds_toArray, List.set_cons_zero, List.set_cons_succ, i64_w, i32_w]
    rfl
  refine pure_ (i := 2) (N := some 12) (v := ?_) (a' := ?_) #[true, true, true, false, false, false, false, false, false, false, false] rfl rfl (by kernel_rfl) (fun _ _ _ h => h) (Or.inl ⟨by rfl, ?_⟩) ?_ ?_
  rotate_left
  · intro w'
    go_simp
    with_reducible rfl
  rotate_left
  · simp only [Act.put, List.setIfInBounds_toArray, List.set_cons_zero, List.set_cons_succ, i64_w, i32_w]
    rfl
  refine pure_ (i := 3) (N := some 13) (v := ?_) (a' := ?_) #[true, true, true, true, false, false, false, false, false, false, false] rfl rfl (by kernel_rfl) (fun _ _ _ h => h) (Or.inl ⟨by rfl, ?_⟩) ?_ ?_
  rotate_left
  · intro w'
    go_simp
    with_reducible rfl
  rotate_left
  · simp only [Act.put, List.setIfInBounds_toArray, List.set_cons_zero, List.set_cons_succ, i64_w, i32_w]
    rfl
  refine take_ (i := 4) (N := some 14) (v := ?_) (a' := ?_) #[true, true, true, true, true, false, false, false, false, false, false] rfl rfl (by kernel_rfl) (fun _ _ _ h => h) (Or.inl ⟨by rfl, ?_⟩) hHeld ?_ ?_
  rotate_left
  · rintro w' ⟨s0, s1, s2⟩
    go_simp
    with_reducible rfl
  rotate_left
  · simp only [Act.put, List.setIfInBounds_toArray, List.set_cons_zero, List.set_cons_succ, i64_w, i32_w]
    rfl
  refine take_ (i := 5) (N := some 15) (v := ?_) (a' := ?_) #[true, true, true, true, true, true, false, false, false, false, false] rfl rfl (by kernel_rfl) (fun _ _ _ h => h) (Or.inl ⟨by rfl, ?_⟩) hHeld ?_ ?_
  rotate_left
  · rintro w' ⟨s0, s1, s2⟩
    go_simp
    with_reducible rfl
  rotate_left
  · simp only [Act.put, List.setIfInBounds_toArray, List.set_cons_zero, List.set_cons_succ, i64_w, i32_w]
    rfl
  refine one_ (i := 6) (N := some 16) #[true, true, true, true, true, true, true, false, false, false, false] rfl rfl (by kernel_rfl) (by decide) (fun K hK => ?_)
  refine value_ (v := .slice (some ⟨W3.heap.size, 0, none⟩) 1 1) (w1 := W3.drew.alloc (.cells #[.int .i64 e.f0, .slice A3 e.f1.length c3] TE)) (by rfl) rfl (by go_simp <;> rfl) ?_
  refine hK.out _ _ ⟨pw_cell_below (below_alloc (Below.refl _ _) _) z4, pw_cell_below (below_alloc (Below.refl _ _) _) x3, pw_cell_below (below_alloc (Below.refl _ _) _) x4⟩ (fun hHeld => ?_)
  clear hK K
  refine norm_ (a' := ?_) ?_ ?_
  rotate_left
  · show Act.put _ (some 16) _ = _
    simp only [Act.put, List.setIfInBounds_toArray, List.set_cons_zero, List.set_cons_succ, i64_w, i32_w]
    rfl
  refine one_ (i := 7) (N := some 17) #[true, true, true, true, true, true, true, true, false, false, false] rfl rfl (by kernel_rfl) (by decide) (fun K hK => ?_)
  refine step kE (W := W3.drew) B rfl (.tmp 14) (.tmp 16) 23 TE (.agg #[(.int .i64 0), (.slice none 0 0)]) 32 rfl Try.underlying23 info35 rfl (by decide) (by omega) vl s.L e [.int .i64 e.f0, .slice A3 e.f1.length c3] (fun q => B ≤ q ∧ q ≠ gj ∧ q ≠ gd ∧ some q ≠ vb.ownBlock) (fun q => W.heap.size < q) rfl rfl (mk_EF W3.drew _ e HL3.out HF3.out) (fun q hq => ⟨?okp, fun he => by have := HO.out q ((H9.out q).2 (.inr (.inr (.inr he)))); omega⟩) (fun q hq => ?okf) (Kd.N_drew HN3.out) (Nat.le_trans HB.out HB3.out.size) (by have := HN.out; omega) ?_
  case okp => exact ok_new HG.out.1 HG.out.2.1 HO.out (fun he => (H9.out q).2 (.inr (.inr (.inl he)))) HB.out (Nat.le_of_lt hq)
  case okf => exact ok_new HG.out.1 HG.out.2.1 HO.out (fun he => (H9.out q).2 (.inr (.inr (.inl he)))) HB.out (Nat.le_trans HB3.out.size hq)
  intro v9 w9 hn9 hb9 hg9 hat9
  obtain ⟨A9, n9, c9, e9⟩ : ∃ A n c, v9 = .slice A n c := by obtain ⟨A, c, e⟩ := Kd.N_slice hn9; exact ⟨A, _, c, e⟩
  subst e9
  have HN9 := Aside0.mk hn9
  have HGR := Aside0.mk hg9
  have HAT := Aside0.mk hat9
  have K9 := Aside0.mk (blk_grown (blk_drew HG3.out) hg9 HG.out.2.2.1)
  have z9 : w9.cell? ⟨gj, 4, none⟩ = some vl := (blk_cell K9.out 4).trans rfl
  have z0 : w9.cell? ⟨gj, 0, none⟩ = some (.int .i64 (s.n : Int)) := (blk_cell K9.out 0).trans rfl
  have z1 : w9.cell? ⟨gj, 1, none⟩ = some (.slice At s.tag.length ct) := (blk_cell K9.out 1).trans rfl
  have f9 : w9.frozen? ⟨gj, 4, none⟩ = false := blk_frozen K9.out 4
  have f0 : w9.frozen? ⟨gj, 0, none⟩ = false := blk_frozen K9.out 0
  have f1 : w9.frozen? ⟨gj, 1, none⟩ = false := blk_frozen K9.out 1
  have KX := blk_grown (blk_drew HX3.out) hg9 (fun he => by have := HO.out W.heap.size ((H9.out _).2 (.inr (.inr (.inr he)))); omega)
  have x9 : w9.cell? ⟨W.heap.size, 0, none⟩ = some (.int .i64 e.f0) := (blk_cell KX 0).trans rfl
  have y9 : w9.cell? ⟨W.heap.size, 1, none⟩ = some (.slice A3 e.f1.length c3) := (blk_cell KX 1).trans rfl
  clear hn9 hb9 hg9 hat9 KX
  refine hK.out _ _ ⟨z9, x9, y9⟩ (fun hHeld => ?_)
  clear hK K
  refine norm_ (a' := ?_) ?_ ?_
  rotate_left
  · show Act.put _ (some 17) _ = _
    simp only [Act.put, List.setIfInBounds_toArray, List.set_cons_zero, List.set_cons_succ, i64_w, i32_w]
    rfl
  refine pure_ (i := 8) (N := some 18) (v := ?_) (a' := ?_) #[true, true, true, true, true, true, true, true, true, false, false] rfl rfl (by kernel_rfl) (fun _ _ _ h => h) (Or.inl ⟨by rfl, ?_⟩) ?_ ?_
  rotate_left
  · intro w'
    go_simp
    with_reducible rfl
  rotate_left
  · simp only [Act.put, List.setIfInBounds_toArray, List.set_cons_zero, List.set_cons_succ, i64_w, i32_w]
    rfl
  refine pure_ (i := 9) (N := some 19) (v := ?_) (a' := ?_) #[true, true, true, true, true, true, true, true, true, true, false] rfl rfl (by kernel_rfl) (fun _ _ _ h => h) (Or.inl ⟨by rfl, ?_⟩) ?_ ?_
  rotate_left
  · intro w'
    go_simp
    with_reducible rfl
  rotate_left
  · simp only [Act.put, List.setIfInBounds_toArray, List.set_cons_zero, List.set_cons_succ, i64_w, i32_w]
    rfl
  refine last_ (i := 10) (N := none) #[true, true, true, true, true, true, true, true, true, true, true] rfl rfl (by kernel_rfl) (by decide) (fun K hK => ?_)
  refine skip_ (w1 := ?_) (by rfl) rfl ?_ ?_
  rotate_left
  · go_simp
    rfl
  refine hK.out _ _ ?_
  clear hK K
  refine done_ (by kernel_rfl) ?_
  have hw : IntKind.i64.wrap ((s.n : Int) + 1) = (s.n : Int) + 1 := IntWalk.i64_in _ (by have := HN.out.1; omega)
  go_wp2
  go_end0
  have hn9 : n9 = (s.L ++ [e]).length := (Kd.N_reads' HN9.out).1
  have hvl : ∀ k, vl.ownBlock = some k → B ≤ k ∧ k ≠ gj ∧ k ≠ gd ∧ some k ≠ vb.ownBlock := H4.out.1
  have hO9 : ∀ q, q < W.heap.size → some q = (Value.slice A9 n9 c9).ownBlock → some q = vl.ownBlock := fun q hq he => by
    rcases HAT.out with h | ⟨x, h, hx⟩
    · exact he.trans h
    · rw [h] at he
      have h1 := Option.some.inj he
      have h2 : W3.heap.size ≤ x := hx
      have h3 := HB3.out.size
      omega
  have hk : Kept W (((w9.setCell ⟨gj, 4, none⟩ (.slice A9 n9 c9)).setCell ⟨gj, 0, none⟩ (.int .i64 ((s.n : Int) + 1))).setCell ⟨gj, 1, none⟩ (.slice A2 t.length c2)) (fun q => q = gj ∨ some q = vl.ownBlock) :=
    (((Kept.of_grown HGR.out (Kept.of_below (below_drew HB3.out) _) (fun k hk => .inl (.inr hk.symm))).setCell (p := ⟨gj, 4, none⟩) (.inl (.inl rfl)) _).setCell (p := ⟨gj, 0, none⟩) (.inl (.inl rfl)) _).setCell (p := ⟨gj, 1, none⟩) (.inl (.inl rfl)) _
  have hbb : Below B W (((w9.setCell ⟨gj, 4, none⟩ (.slice A9 n9 c9)).setCell ⟨gj, 0, none⟩ (.int .i64 ((s.n : Int) + 1))).setCell ⟨gj, 1, none⟩ (.slice A2 t.length c2)) :=
    ((((below_drew (HB3.out.mono HB.out)).grown HGR.out (Nat.le_trans HB.out HB3.out.size) (fun q hq => (hvl q hq).1)).setCell (p := ⟨gj, 4, none⟩) H3.out _).setCell (p := ⟨gj, 0, none⟩) H3.out _).setCell (p := ⟨gj, 1, none⟩) H3.out _
  have hOO : ∀ q, q < W.heap.size → (q = gj ∨ q = gd ∨ some q = vb.ownBlock ∨ some q = (Value.slice A9 n9 c9).ownBlock) → O q := fun q hq h => (H9.out q).2 (h.imp_right (fun h => h.imp_right (fun h => h.imp_right (hO9 q hq))))
  have hS : ∀ q, (q = gj ∨ some q = vl.ownBlock) → O q := fun q h => (H9.out q).2 (h.elim .inl (fun h => .inr (.inr (.inr h))))
  have hF : ∀ (A : Option Addr) (x : List Int), Kd.F (Kd.int .u8) W (fun q => ¬ O q) A x.length x → Kd.F (Kd.int .u8) _ (fun q => ¬ (q = gj ∨ q = gd ∨ some q = vb.ownBlock ∨ some q = (Value.slice A9 n9 c9).ownBlock)) A x.length x := fun A x hx =>
    Kd.F_mono (Kd.F_kept (Kd.F_bound hx) hk (fun q hq h => hq.1 (hS q h))) (fun q hq h => hq.1 (hOO q hq.2 h))
  refine ⟨rfl, fun q => q = gj ∨ q = gd ∨ some q = vb.ownBlock ∨ some q = (Value.slice A9 n9 c9).ownBlock, ⟨vb, .slice A9 n9 c9, A2, c2, Ak, ck, ?_, ?_, H3.out, ?_, ⟨HT.out.1, hF _ _ HT.out.2⟩, ⟨H78.out.1, hF _ _ H78.out.2⟩, fun q => Iff.rfl⟩, hk.mono hS, hOO, hbb⟩
  · exact blk_put (blk_put (blk_put K9.out 4 _ rfl) 0 _ rfl) 1 _ rfl
  · exact dev_kept H2.out hk (fun h => h.elim (fun h => HG.out.2.2.2.2.1 h.symm) (fun h => HG.out.2.2.2.1 h)) (fun k hk h => h.elim (fun h => HG.out.2.2.2.2.2 (h ▸ hk)) (fun h => (hvl k h.symm).2.2.2 hk))
  · exact Kd.N_far (p := ⟨gj, 1, none⟩) (Kd.N_far (p := ⟨gj, 0, none⟩) (Kd.N_far (p := ⟨gj, 4, none⟩) HN9.out (fun q hq => hq.2.1) _) (fun q hq => hq.2.1) _) (fun q hq => hq.2.1) _
end Go.Proofs.Ytogjnipojakfjaa.JJour
