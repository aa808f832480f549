-- PRINTED by print.py (a twelfth state) out of the translation. Not trusted: Lean checks it.
import Derived.Test.YtiamcmjdoobaeaaPCtx0
import Derived.Test.YtiamcmjdoobaeaaPCtx5
namespace Go.Proofs.Ytiamcmjdoobaeaa.PCt
open Go.RowKit Go.Proofs.YtiamcmjdoobaeaaW.PrintWords Go.Proofs.YtiamcmjdoobaeaaW.PrintLast Go.Proofs.YtiamcmjdoobaeaaW.PrintMore
attribute [local go_sem] max2_int min2_int max_two min_two max_three min_three max_four min_four   -- for this text's walks alone
set_option linter.unusedVariables false
set_option linter.unusedSimpArgs false

/-! ### code_ReadTerm: function 13 (given) -/
def code_ReadTerm.start (l : List Int) (p : Int) : Int := if p < 0 ∨ (l.length : Int) < p then 13 else 0
def code_ReadTerm.f (k : Nat) (l0 : List Int) (a1 : Int) : Option (Int × Int × ByteArray × List S25 × Int × Int × Int × Int) := (code_rd.term k l0 0 a1 (code_ReadTerm.start l0 a1)).bind fun s => some (if s.2.2 = 0 then (s.1.f0, s.1.f1, s.1.f2, s.1.f3, s.1.f4, s.1.f5, s.2.1, 0) else (0, 0, ⟨#[]⟩, [], 0, 0, 0, s.2.2))
theorem code_ReadTerm.mono : ∀ l0 a1 k, LeO (code_ReadTerm.f k l0 a1) (code_ReadTerm.f (k + 1) l0 a1) := fun l0 a1 k => LeO.bind (code_rd.term_mono _ k _ _ _) fun _ => LeO.refl _
theorem code_ReadTerm.row_ {P : Program} {Q : Exit → Act → World → Prop} {ops : Array Oper} {oi : Oper} {a : Act} {w : World} {K : Act → World → Prop} (hw : Region.wanted oi (yielded ops a.tmps) = true) (hN : oi.dst = none) (ty : TypeId) (x y : Operand) (ho : oi.op = .store ty x y)
    (g : Nat) (cells : Array Value) (hx : a.eval x = .pointer (some ⟨g, 0, none⟩)) (hy : a.eval y = .agg cells)
    (t : TypeId) (old : Array Value) (hg : w.heap[g]? = some (.cells old t (0, 0))) (hi : (P.info? ty).map (·.size) = some cells.size)
    (hold : old.size = cells.size) (h1 : cells.all (·.oneCell') = true)
    (h : ∀ w2, w2.heap[g]? = some (.cells cells t (0, 0)) → (∀ k, k ≠ g → w2.heap[k]? = w.heap[k]?) → Below g w w2 → K a w2) : if Region.wanted oi (yielded ops a.tmps) = true then Oper.wp P oi a w K Q else K (a.put none undef) w := by
  rw [if_pos hw]
  refine wp_store_row ty x y ho g cells hx hy t old hg hi hold h1 ?_
  rw [hN]
  exact h _ (setRow_heap _ _ _ _ _ _ hg) (fun k hk => setRow_other _ _ _ _ hk) (code_rd.below_row (Below.refl _ _) (Nat.le_refl _) _)
set_option maxHeartbeats 4000000 in
set_option maxRecDepth 100000 in
theorem code_ReadTerm.begin_calls (A : Option Addr) (c : Nat) (l : List Int) (p : Int) (w : World) (hA : Kd.C (Kd.int .u8) w A l.length l) (hc : l.length ≤ c) :
    Calls Try.prog 36 #[.slice A l.length c, .int .i64 p] w fun e w' => ∃ g : Nat, e = .returned (.pointer (some ⟨g, 0, none⟩)) ∧ code_rd.Rd w w' g A c l p 0 (code_ReadTerm.start l p) ∧ Below w.heap.size w w' := by
  have hu := Try.underlying75
  have HA := Aside0.mk hA
  have HC := Aside0.mk hc
  clear hA hc
  by_cases c1 : p < 0
  · rw [code_ReadTerm.start, if_pos (.inl c1)]
    have c1b : decide (p < 0) = true := decide_eq_true c1
    clear c1
    go_enter Try.func36, Try.ntmps36
    go_wp2
    go_ret
    exact ⟨_, rfl, ⟨blk_new _ _, Nat.le_refl _, HA.out, HC.out, below_alloc (Below.refl _ _) _⟩, below_alloc (Below.refl _ _) _⟩
  have c1b : decide (p < 0) = false := decide_eq_false c1
  by_cases c2 : (l.length : Int) < p
  · rw [code_ReadTerm.start, if_pos (.inr c2)]
    have c2b : decide ((l.length : Int) < p) = true := decide_eq_true c2
    clear c1 c2
    go_enter Try.func36, Try.ntmps36
    go_wp2
    go_ret
    exact ⟨_, rfl, ⟨blk_new _ _, Nat.le_refl _, HA.out, HC.out, below_alloc (Below.refl _ _) _⟩, below_alloc (Below.refl _ _) _⟩
  have c2b : decide ((l.length : Int) < p) = false := decide_eq_false c2
  rw [code_ReadTerm.start, if_neg (by omega)]
  clear c1 c2
  go_enter Try.func36, Try.ntmps36
  go_wp2
  go_ret
  exact ⟨_, rfl, ⟨blk_new _ _, Nat.le_refl _, HA.out, HC.out, below_alloc (Below.refl _ _) _⟩, below_alloc (Below.refl _ _) _⟩
set_option maxHeartbeats 4000000 in
set_option maxRecDepth 100000 in
theorem code_ReadTerm.calls (k : Nat) (A : Option Addr) (c : Nat) (l : List Int) (p : Int) (r1 : Int) (r2 : Int) (r3 : ByteArray) (r4 : List (S25)) (r5 : Int) (r6 : Int) (r7 : Int) (r8 : Int) (w : World) (hA : Kd.C (Kd.int .u8) w A l.length l) (hc : l.length ≤ c) (h : code_ReadTerm.f k l p = some (r1, r2, r3, r4, r5, r6, r7, r8)) :
    Calls Try.prog 13 #[.slice A l.length c, .int .i64 p] w fun e w' => ∃ v3_ : Value, e = .returned (.tuple #[.agg #[.int .i64 r1, .int .i64 r2, .string r3, v3_, .int .i64 r5, .int .i64 r6], .int .i64 r7, .int .i64 r8]) ∧ Kd.V k25 25 w' w.heap.size (fun k_ => (w.heap.size ≤ k_)) v3_ r4 ∧ Below w.heap.size w w' := by
  have hu := Try.underlying75
  have hu2 := Try.underlying25
  obtain ⟨⟨x, p2, e2⟩, hs, h⟩ := Option.bind_eq_some_iff.mp h
  have HA := Aside0.mk hA
  have HC := Aside0.mk hc
  have HS := Aside0.mk hs
  dsimp only at h
  clear hA hc hs
  by_cases he : e2 = 0
  · subst he
    rw [if_pos rfl] at h
    have e := Option.some.inj h
    simp only [Prod.mk.injEq] at e
    obtain ⟨rfl, rfl, rfl, rfl, rfl, rfl, rfl, rfl⟩ := e
    clear h
    go_enter Try.func13, Try.ntmps13
    obtain ⟨W1, hW1⟩ : ∃ W1 : World, W1 = w.alloc (.cells #[.int .i64 0, .int .i64 0, .string (⟨#[]⟩ : ByteArray), .slice none 0 0, .int .i64 0, .int .i64 0] 25) := ⟨_, rfl⟩
    have hb1 : Below w.heap.size w W1 := by rw [hW1]; exact below_alloc (Below.refl _ _) _
    have hx1 : W1.heap[w.heap.size]? = some (.cells #[.int .i64 0, .int .i64 0, .string (⟨#[]⟩ : ByteArray), .slice none 0 0, .int .i64 0, .int .i64 0] 25 (0, 0)) := by rw [hW1]; exact blk_new _ _
    have hs1 : W1.heap.size = w.heap.size + 1 := by rw [hW1]; simp
    have HA1 := Aside0.mk (Kd.C_below HA.out hb1)
    have HB1 := Aside0.mk hb1
    have HX1 := Aside0.mk hx1
    have HZ1 := Aside0.mk hs1
    clear hb1 hx1 hs1
    go_upto_region 5 with (first | (go_at_call 37; (with_reducible refine (code_rd.term_calls k W1 g A c l 0 p _ x p2 0 _ HI2.out HS.out).mono ?_); rintro y w3 ⟨A3, c3, rfl, hl3, hf3, hi3, hk3⟩; (have x3 : ∀ o, (w3.alloc o).cell? ⟨g, 3, none⟩ = some (.int .i64 0) := fun o => (blk_cell (blk_alloc hi3.blk o) 3).trans rfl); (have HI3 := Aside0.mk hi3); (have HK3 := Aside0.mk hk3); (have HL3 := Aside0.mk hl3); (have HF3 := Aside0.mk hf3); clear hi3 hk3 hl3 hf3) | (rw [← hW1]; go_at_call 36; (with_reducible refine (code_ReadTerm.begin_calls A c l p _ HA1.out HC.out).mono ?_); rintro y w2 ⟨g, rfl, hi2, hb2⟩; (have HI2 := Aside0.mk hi2); (have HB2 := Aside0.mk hb2); clear hi2 hb2))
    clear hW1 x3
    have hgw : w.heap.size ≠ g := by have := HI2.out.ge; have := HZ1.out; omega
    have hx3 : w3.heap[w.heap.size]? = some (.cells #[.int .i64 0, .int .i64 0, .string (⟨#[]⟩ : ByteArray), .slice none 0 0, .int .i64 0, .int .i64 0] 25 (0, 0)) := code_rd.kb HK3.out ((HB2.out.block _ (by have := HZ1.out; omega)).trans HX1.out) hgw
    have hb3 : Below w.heap.size w w3 := HB1.out.trans (HI3.out.bel.mono (by have := HZ1.out; omega))
    obtain ⟨W4, hW4⟩ : ∃ W4 : World, W4 = w3.alloc (.cells #[.int .i64 x.f0, .int .i64 x.f1, .string x.f2, .slice A3 x.f3.length c3, .int .i64 x.f4, .int .i64 x.f5] 25) := ⟨_, rfl⟩
    have hb4 : Below w3.heap.size w3 W4 := by rw [hW4]; exact below_alloc (Below.refl _ _) _
    have hx4 : W4.heap[w3.heap.size]? = some (.cells #[.int .i64 x.f0, .int .i64 x.f1, .string x.f2, .slice A3 x.f3.length c3, .int .i64 x.f4, .int .i64 x.f5] 25 (0, 0)) := by rw [hW4]; exact blk_new _ _
    have hy4 : W4.heap[w.heap.size]? = some (.cells #[.int .i64 0, .int .i64 0, .string (⟨#[]⟩ : ByteArray), .slice none 0 0, .int .i64 0, .int .i64 0] 25 (0, 0)) := blk_below hx3 hb4
    have hi4 : W4.heap[g]? = some (.cells #[.slice A l.length c, .int .i64 p2, .int .i64 0, .int .i64 0] 75 (0, 0)) := blk_below HI3.out.blk hb4
    rw [← hW4]
    have hf4 : Kd.F k25 W4 (fun q => w2.heap.size ≤ q) A3 x.f3.length x.f3 := Kd.F_below HF3.out hb4
    have hq4 : w.heap.size + 1 ≤ w2.heap.size := by have := HB2.out.size; have := HZ1.out; omega
    have HY4 := Aside0.mk hy4
    have HX4 := Aside0.mk hx4
    have HI4 := Aside0.mk hi4
    have HGW := Aside0.mk hgw
    have HWW : Aside0 (w3.heap.size ≠ w.heap.size) := ⟨by have := blk_lt hx3; omega⟩
    have HF4 := Aside0.mk hf4
    have HQ4 := Aside0.mk hq4
    have HB4 := Aside0.mk (below_step hb3 hb4)
    have z1 : W4.cell? ⟨g, 1, none⟩ = some (.int .i64 p2) := (blk_cell hi4 1).trans rfl
    have z3 : W4.cell? ⟨g, 3, none⟩ = some (.int .i64 0) := (blk_cell hi4 3).trans rfl
    have y0 : W4.cell? ⟨w3.heap.size, 0, none⟩ = some (.int .i64 x.f0) := (blk_cell hx4 0).trans rfl
    have y1 : W4.cell? ⟨w3.heap.size, 1, none⟩ = some (.int .i64 x.f1) := (blk_cell hx4 1).trans rfl
    have y2 : W4.cell? ⟨w3.heap.size, 2, none⟩ = some (.string x.f2) := (blk_cell hx4 2).trans rfl
    have y3 : W4.cell? ⟨w3.heap.size, 3, none⟩ = some (.slice A3 x.f3.length c3) := (blk_cell hx4 3).trans rfl
    have y4 : W4.cell? ⟨w3.heap.size, 4, none⟩ = some (.int .i64 x.f4) := (blk_cell hx4 4).trans rfl
    have y5 : W4.cell? ⟨w3.heap.size, 5, none⟩ = some (.int .i64 x.f5) := (blk_cell hx4 5).trans rfl
    clear hx3 hb3 hb4 hx4 hy4 hi4 hf4 hq4 hgw HF3 HB1 HX1 HZ1 HA1 HI2 HB2 HI3 HK3 hW4
    refine start_ (n := 8) (S := fun w' => w'.cell? ⟨w3.heap.size, 0, none⟩ = some (.int .i64 x.f0) ∧ w'.cell? ⟨w3.heap.size, 1, none⟩ = some (.int .i64 x.f1) ∧ w'.cell? ⟨w3.heap.size, 2, none⟩ = some (.string x.f2) ∧ w'.cell? ⟨w3.heap.size, 3, none⟩ = some (.slice A3 x.f3.length c3) ∧ w'.cell? ⟨w3.heap.size, 4, none⟩ = some (.int .i64 x.f4) ∧ w'.cell? ⟨w3.heap.size, 5, none⟩ = some (.int .i64 x.f5) ∧ w'.cell? ⟨g, 1, none⟩ = some (.int .i64 p2)) (ds := []) #[false, false, false, false, false, false, false, false] (by kernel_rfl) rfl rfl ⟨y0, y1, y2, y3, y4, y5, z1⟩ (fun hHeld => ?_)
    refine take_ (i := 0) (N := some 24) (v := ?_) (a' := ?_) #[true, false, false, false, false, false, false, false] rfl rfl (by kernel_rfl) (fun _ _ _ h => h) (Or.inl ⟨by rfl, ?_⟩) hHeld ?_ ?_
    rotate_left
    · rintro w' ⟨s0, s1, s2, s3, s4, s5, s6⟩
      go_simp
      with_reducible rfl
    rotate_left
    · simp only [Act.put, List.setIfInBounds_toArray, List.set_cons_zero, List.set_cons_succ, i64_w, i32_w]
      rfl
    refine pure_ (i := 1) (N := some 25) (v := ?_) (a' := ?_) #[true, true, false, false, false, false, false, false] rfl rfl (by kernel_rfl) (fun _ _ _ h => h) (Or.inl ⟨by rfl, ?_⟩) ?_ ?_
    rotate_left
    · intro w'
      go_simp
      with_reducible rfl
    rotate_left
    · simp only [Act.put, List.setIfInBounds_toArray, List.set_cons_zero, List.set_cons_succ, i64_w, i32_w]
      rfl
    refine pure_ (i := 2) (N := some 26) (v := ?_) (a' := ?_) #[true, true, true, false, false, false, false, false] rfl rfl (by kernel_rfl) (fun _ _ _ h => h) (Or.inl ⟨by rfl, ?_⟩) ?_ ?_
    rotate_left
    · intro w'
      go_simp
      with_reducible rfl
    rotate_left
    · simp only [Act.put, List.setIfInBounds_toArray, List.set_cons_zero, List.set_cons_succ, i64_w, i32_w]
      rfl
    refine pure_ (i := 3) (N := some 27) (v := ?_) (a' := ?_) #[true, true, true, true, false, false, false, false] rfl rfl (by kernel_rfl) (fun _ _ _ h => h) (Or.inl ⟨by rfl, ?_⟩) ?_ ?_
    rotate_left
    · intro w'
      go_simp
      with_reducible rfl
    rotate_left
    · simp only [Act.put, List.setIfInBounds_toArray, List.set_cons_zero, List.set_cons_succ, i64_w, i32_w]
      rfl
    refine take_ (i := 4) (N := some 28) (v := ?_) (a' := ?_) #[true, true, true, true, true, false, false, false] rfl rfl (by kernel_rfl) (fun _ _ _ h => h) (Or.inl ⟨by rfl, ?_⟩) hHeld ?_ ?_
    rotate_left
    · rintro w' ⟨s0, s1, s2, s3, s4, s5, s6⟩
      go_simp
      with_reducible rfl
    rotate_left
    · simp only [Act.put, List.setIfInBounds_toArray, List.set_cons_zero, List.set_cons_succ, i64_w, i32_w]
      rfl
    refine one_ (i := 5) (N := none) #[true, true, true, true, true, true, false, false] rfl rfl (by kernel_rfl) (by decide) (fun K hK => ?_)
    refine code_ReadTerm.row_ (by rfl) rfl 25 (.tmp 4) (.tmp 24) rfl w.heap.size #[.int .i64 x.f0, .int .i64 x.f1, .string x.f2, .slice A3 x.f3.length c3, .int .i64 x.f4, .int .i64 x.f5] rfl rfl 25 _ HY4.out (by kernel_rfl) rfl (by simp [Value.oneCell']) ?_
    intro W5 hg5 ho5 hb5
    have HG5 := Aside0.mk hg5
    have HO5 : Aside0 (∀ k, k ≠ w.heap.size → W5.heap[k]? = W4.heap[k]?) := ⟨ho5⟩
    have HB5 : Aside0 (Below w.heap.size W4 W5) := ⟨(below_drew (Below.refl _ _)).trans hb5⟩
    have vi5 : W5.heap[g]? = some (.cells #[.slice A l.length c, .int .i64 p2, .int .i64 0, .int .i64 0] 75 (0, 0)) := (ho5 g (fun e => HGW.out e.symm)).trans HI4.out
    have vx5 : W5.heap[w3.heap.size]? = some (.cells #[.int .i64 x.f0, .int .i64 x.f1, .string x.f2, .slice A3 x.f3.length c3, .int .i64 x.f4, .int .i64 x.f5] 25 (0, 0)) := (ho5 _ HWW.out).trans HX4.out
    refine hK.out _ _ ⟨(blk_cell vx5 0).trans rfl, (blk_cell vx5 1).trans rfl, (blk_cell vx5 2).trans rfl, (blk_cell vx5 3).trans rfl, (blk_cell vx5 4).trans rfl, (blk_cell vx5 5).trans rfl, (blk_cell vi5 1).trans rfl⟩ (fun hHeld => ?_)
    clear hK K hg5 ho5 hb5 vi5 vx5
    refine pure_ (i := 6) (N := some 5) (v := ?_) (a' := ?_) #[true, true, true, true, true, true, true, false] rfl rfl (by kernel_rfl) (fun _ _ _ h => h) (Or.inl ⟨by rfl, ?_⟩) ?_ ?_
    rotate_left
    · intro w'
      go_simp
      with_reducible rfl
    rotate_left
    · simp only [Act.put, List.setIfInBounds_toArray, List.set_cons_zero, List.set_cons_succ, i64_w, i32_w]
      rfl
    refine pure_ (i := 7) (N := some 6) (v := ?_) (a' := ?_) #[true, true, true, true, true, true, true, true] rfl rfl (by kernel_rfl) (fun _ _ _ h => h) (Or.inl ⟨by rfl, ?_⟩) ?_ ?_
    rotate_left
    · intro w'
      go_simp
      with_reducible rfl
    rotate_left
    · simp only [Act.put, List.setIfInBounds_toArray, List.set_cons_zero, List.set_cons_succ, i64_w, i32_w]
      rfl
    refine done_ (by kernel_rfl) ?_
    go_wp2
    refine bodyPost_ret (results_ctt rfl _ _ w.heap.size 25 _ (0, 0) _ rfl HG5.out Try.underlying25 rfl (by kernel_rfl)) rfl ?_
    exact ⟨_, rfl, Kd.V_mono (Kd.V_mk HL3.out (Kd.F_step HF4.out (fun q hq _ => HO5.out q (by have := HQ4.out; have h1 : w2.heap.size ≤ q := hq; omega)))) (fun q hq => by have := HQ4.out; have h1 : w2.heap.size ≤ q := hq; omega), HB4.out.trans HB5.out⟩
  · have heb : (e2 != 0) = true := by simpa using he
    rw [if_neg he] at h
    have e := Option.some.inj h
    simp only [Prod.mk.injEq] at e
    obtain ⟨rfl, rfl, rfl, rfl, rfl, rfl, rfl, rfl⟩ := e
    clear h he
    go_enter Try.func13, Try.ntmps13
    obtain ⟨W1, hW1⟩ : ∃ W1 : World, W1 = w.alloc (.cells #[.int .i64 0, .int .i64 0, .string (⟨#[]⟩ : ByteArray), .slice none 0 0, .int .i64 0, .int .i64 0] 25) := ⟨_, rfl⟩
    have hb1 : Below w.heap.size w W1 := by rw [hW1]; exact below_alloc (Below.refl _ _) _
    have hx1 : W1.heap[w.heap.size]? = some (.cells #[.int .i64 0, .int .i64 0, .string (⟨#[]⟩ : ByteArray), .slice none 0 0, .int .i64 0, .int .i64 0] 25 (0, 0)) := by rw [hW1]; exact blk_new _ _
    have hs1 : W1.heap.size = w.heap.size + 1 := by rw [hW1]; simp
    have HA1 := Aside0.mk (Kd.C_below HA.out hb1)
    have HB1 := Aside0.mk hb1
    have HX1 := Aside0.mk hx1
    have HZ1 := Aside0.mk hs1
    clear hb1 hx1 hs1
    go_upto_region 4 with (first | (go_at_call 37; (with_reducible refine (code_rd.term_calls k W1 g A c l 0 p _ x p2 e2 _ HI2.out HS.out).mono ?_); rintro y w3 ⟨A3, c3, rfl, hl3, hf3, hi3, hk3⟩; (have x3 : ∀ o, (w3.alloc o).cell? ⟨g, 3, none⟩ = some (.int .i64 e2) := fun o => (blk_cell (blk_alloc hi3.blk o) 3).trans rfl); (have HI3 := Aside0.mk hi3); (have HK3 := Aside0.mk hk3); (have HL3 := Aside0.mk hl3); (have HF3 := Aside0.mk hf3); clear hi3 hk3 hl3 hf3) | (rw [← hW1]; go_at_call 36; (with_reducible refine (code_ReadTerm.begin_calls A c l p _ HA1.out HC.out).mono ?_); rintro y w2 ⟨g, rfl, hi2, hb2⟩; (have HI2 := Aside0.mk hi2); (have HB2 := Aside0.mk hb2); clear hi2 hb2))
    clear hW1 x3
    have hgw : w.heap.size ≠ g := by have := HI2.out.ge; have := HZ1.out; omega
    have hx3 : w3.heap[w.heap.size]? = some (.cells #[.int .i64 0, .int .i64 0, .string (⟨#[]⟩ : ByteArray), .slice none 0 0, .int .i64 0, .int .i64 0] 25 (0, 0)) := code_rd.kb HK3.out ((HB2.out.block _ (by have := HZ1.out; omega)).trans HX1.out) hgw
    have hb3 : Below w.heap.size w w3 := HB1.out.trans (HI3.out.bel.mono (by have := HZ1.out; omega))
    obtain ⟨W4, hW4⟩ : ∃ W4 : World, W4 = w3.alloc (.cells #[.int .i64 x.f0, .int .i64 x.f1, .string x.f2, .slice A3 x.f3.length c3, .int .i64 x.f4, .int .i64 x.f5] 25) := ⟨_, rfl⟩
    have hb4 : Below w3.heap.size w3 W4 := by rw [hW4]; exact below_alloc (Below.refl _ _) _
    have hx4 : W4.heap[w3.heap.size]? = some (.cells #[.int .i64 x.f0, .int .i64 x.f1, .string x.f2, .slice A3 x.f3.length c3, .int .i64 x.f4, .int .i64 x.f5] 25 (0, 0)) := by rw [hW4]; exact blk_new _ _
    have hy4 : W4.heap[w.heap.size]? = some (.cells #[.int .i64 0, .int .i64 0, .string (⟨#[]⟩ : ByteArray), .slice none 0 0, .int .i64 0, .int .i64 0] 25 (0, 0)) := blk_below hx3 hb4
    have hi4 : W4.heap[g]? = some (.cells #[.slice A l.length c, .int .i64 p2, .int .i64 0, .int .i64 e2] 75 (0, 0)) := blk_below HI3.out.blk hb4
    rw [← hW4]
    have hf4 : Kd.F k25 W4 (fun q => w2.heap.size ≤ q) A3 x.f3.length x.f3 := Kd.F_below HF3.out hb4
    have hq4 : w.heap.size + 1 ≤ w2.heap.size := by have := HB2.out.size; have := HZ1.out; omega
    have HY4 := Aside0.mk hy4
    have HX4 := Aside0.mk hx4
    have HI4 := Aside0.mk hi4
    have HGW := Aside0.mk hgw
    have HWW : Aside0 (w3.heap.size ≠ w.heap.size) := ⟨by have := blk_lt hx3; omega⟩
    have HF4 := Aside0.mk hf4
    have HQ4 := Aside0.mk hq4
    have HB4 := Aside0.mk (below_step hb3 hb4)
    have z1 : W4.cell? ⟨g, 1, none⟩ = some (.int .i64 p2) := (blk_cell hi4 1).trans rfl
    have z3 : W4.cell? ⟨g, 3, none⟩ = some (.int .i64 e2) := (blk_cell hi4 3).trans rfl
    clear hx3 hb3 hb4 hx4 hy4 hi4 hf4 hq4 hgw HF3 HB1 HX1 HZ1 HA1 HI2 HB2 HI3 HK3 hW4
    refine start_ (n := 8) (S := fun w' => w'.cell? ⟨g, 3, none⟩ = some (.int .i64 e2)) (ds := []) #[false, false, false, false, false, false, false, false] (by kernel_rfl) rfl rfl (z3) (fun hHeld => ?_)
    refine pure_ (i := 0) (N := some 19) (v := ?_) (a' := ?_) #[true, false, false, false, false, false, false, false] rfl rfl (by kernel_rfl) (fun _ _ _ h => h) (Or.inl ⟨by rfl, ?_⟩) ?_ ?_
    rotate_left
    · intro w'
      go_simp
      with_reducible rfl
    rotate_left
    · simp only [Act.put, List.setIfInBounds_toArray, List.set_cons_zero, List.set_cons_succ, i64_w, i32_w]
      rfl
    refine pure_ (i := 1) (N := some 20) (v := ?_) (a' := ?_) #[true, true, false, false, false, false, false, false] rfl rfl (by kernel_rfl) (fun _ _ _ h => h) (Or.inl ⟨by rfl, ?_⟩) ?_ ?_
    rotate_left
    · intro w'
      go_simp
      with_reducible rfl
    rotate_left
    · simp only [Act.put, List.setIfInBounds_toArray, List.set_cons_zero, List.set_cons_succ, i64_w, i32_w]
      rfl
    refine pure_ (i := 2) (N := some 21) (v := ?_) (a' := ?_) #[true, true, true, false, false, false, false, false] rfl rfl (by kernel_rfl) (fun _ _ _ h => h) (Or.inl ⟨by rfl, ?_⟩) ?_ ?_
    rotate_left
    · intro w'
      go_simp
      with_reducible rfl
    rotate_left
    · simp only [Act.put, List.setIfInBounds_toArray, List.set_cons_zero, List.set_cons_succ, i64_w, i32_w]
      rfl
    refine pure_ (i := 3) (N := some 22) (v := ?_) (a' := ?_) #[true, true, true, true, false, false, false, false] rfl rfl (by kernel_rfl) (fun _ _ _ h => h) (Or.inl ⟨by rfl, ?_⟩) ?_ ?_
    rotate_left
    · intro w'
      go_simp
      with_reducible rfl
    rotate_left
    · simp only [Act.put, List.setIfInBounds_toArray, List.set_cons_zero, List.set_cons_succ, i64_w, i32_w]
      rfl
    refine take_ (i := 4) (N := some 23) (v := ?_) (a' := ?_) #[true, true, true, true, true, false, false, false] rfl rfl (by kernel_rfl) (fun _ _ _ h => h) (Or.inl ⟨by rfl, ?_⟩) hHeld ?_ ?_
    rotate_left
    · rintro w' s0
      go_simp
      with_reducible rfl
    rotate_left
    · simp only [Act.put, List.setIfInBounds_toArray, List.set_cons_zero, List.set_cons_succ, i64_w, i32_w]
      rfl
    refine one_ (i := 5) (N := none) #[true, true, true, true, true, true, false, false] rfl rfl (by kernel_rfl) (by decide) (fun K hK => ?_)
    refine code_ReadTerm.row_ (by rfl) rfl 25 (.tmp 4) (.tmp 19) rfl w.heap.size #[.int .i64 0, .int .i64 0, .string (⟨#[]⟩ : ByteArray), .slice none 0 0, .int .i64 0, .int .i64 0] rfl rfl 25 _ HY4.out (by kernel_rfl) rfl (by simp [Value.oneCell']) ?_
    intro W5 hg5 ho5 hb5
    have HG5 := Aside0.mk hg5
    have HO5 : Aside0 (∀ k, k ≠ w.heap.size → W5.heap[k]? = W4.heap[k]?) := ⟨ho5⟩
    have HB5 : Aside0 (Below w.heap.size W4 W5) := ⟨(below_drew (Below.refl _ _)).trans hb5⟩
    have vi5 : W5.heap[g]? = some (.cells #[.slice A l.length c, .int .i64 p2, .int .i64 0, .int .i64 e2] 75 (0, 0)) := (ho5 g (fun e => HGW.out e.symm)).trans HI4.out
    have vx5 : W5.heap[w3.heap.size]? = some (.cells #[.int .i64 x.f0, .int .i64 x.f1, .string x.f2, .slice A3 x.f3.length c3, .int .i64 x.f4, .int .i64 x.f5] 25 (0, 0)) := (ho5 _ HWW.out).trans HX4.out
    refine hK.out _ _ ((blk_cell vi5 3).trans rfl) (fun hHeld => ?_)
    clear hK K hg5 ho5 hb5 vi5 vx5
    refine pure_ (i := 6) (N := some 5) (v := ?_) (a' := ?_) #[true, true, true, true, true, true, true, false] rfl rfl (by kernel_rfl) (fun _ _ _ h => h) (Or.inl ⟨by rfl, ?_⟩) ?_ ?_
    rotate_left
    · intro w'
      go_simp
      with_reducible rfl
    rotate_left
    · simp only [Act.put, List.setIfInBounds_toArray, List.set_cons_zero, List.set_cons_succ, i64_w, i32_w]
      rfl
    refine pure_ (i := 7) (N := some 6) (v := ?_) (a' := ?_) #[true, true, true, true, true, true, true, true] rfl rfl (by kernel_rfl) (fun _ _ _ h => h) (Or.inl ⟨by rfl, ?_⟩) ?_ ?_
    rotate_left
    · intro w'
      go_simp
      with_reducible rfl
    rotate_left
    · simp only [Act.put, List.setIfInBounds_toArray, List.set_cons_zero, List.set_cons_succ, i64_w, i32_w]
      rfl
    refine done_ (by kernel_rfl) ?_
    go_wp2
    refine bodyPost_ret (results_ctt rfl _ _ w.heap.size 25 _ (0, 0) _ rfl HG5.out Try.underlying25 rfl (by kernel_rfl)) rfl ?_
    exact ⟨_, rfl, Kd.V_nil _ _ _ _ _, HB4.out.trans HB5.out⟩

end Go.Proofs.Ytiamcmjdoobaeaa.PCt
