-- SLIM: a printed text of which the unused ways are cut off
-- PRINTED by print.py (a twelfth state) out of the translation. Not trusted: Lean checks it.
import Derived.Test.YtiamcmjdoobaeaaPCex0
import Derived.Test.YtiamcmjdoobaeaaPCex2
import Derived.Test.YtiamcmjdoobaeaaPCex3
namespace Go.Proofs.Ytiamcmjdoobaeaa.PCe
open Go.RowKit Go.Proofs.YtiamcmjdoobaeaaW.PrintWords Go.Proofs.YtiamcmjdoobaeaaW.PrintLast Go.Proofs.YtiamcmjdoobaeaaW.PrintMore
attribute [local go_sem] max2_int min2_int max_two min_two max_three min_three max_four min_four   -- for this text's walks alone
set_option linter.unusedVariables false
set_option linter.unusedSimpArgs false

/-! ### code_ReadDeriv: function 18 (given) -/
def code_ReadDeriv.f (k : Nat) (l0 : List Int) (a1 : Int) : Option (Int × List Int × Int × Bool × List Int × List Int × Int × Int × ByteArray × (List S25) × Int × Int × (List S42) × Int × Int) := (code_rs.deriv k l0 0 a1 (code_ReadTerm.start l0 a1)).bind fun s => some (if s.2.2 = 0 then (s.1.f0, s.1.f1, s.1.f2.f0, s.1.f2.f1, s.1.f2.f2, s.1.f2.f3, s.1.f2.f4.f0, s.1.f2.f4.f1, s.1.f2.f4.f2, s.1.f2.f4.f3, s.1.f2.f4.f4, s.1.f2.f4.f5, s.1.f3, s.2.1, 0) else (0, [], 0, false, [], [], 0, 0, ⟨#[]⟩, [], 0, 0, [], 0, s.2.2))
set_option maxHeartbeats 8000000 in
set_option maxRecDepth 100000 in
theorem code_ReadDeriv.calls (k : Nat) (A : Option Addr) (c : Nat) (l : List Int) (p : Int) (r1 : Int) (r2 : List Int) (r3 : Int) (r4 : Bool) (r5 : List Int) (r6 : List Int) (r7 : Int) (r8 : Int) (r9 : ByteArray) (r10 : List (S25)) (r11 : Int) (r12 : Int) (r13 : List (S42)) (r14 : Int) (r15 : Int) (w : World) (hA : Kd.C (Kd.int .u8) w A l.length l) (hc : l.length ≤ c) (h : code_ReadDeriv.f k l p = some (r1, r2, r3, r4, r5, r6, r7, r8, r9, r10, r11, r12, r13, r14, r15)) :
    Calls Try.prog 18 #[.slice A l.length c, .int .i64 p] w fun e w' => ∃ v1_ v4_ v5_ v9_ v12_ : Value, e = .returned (.tuple #[.agg #[.int .i64 r1, v1_, .int .i64 r3, .bool r4, v4_, v5_, .int .i64 r7, .int .i64 r8, .string r9, v9_, .int .i64 r11, .int .i64 r12, v12_], .int .i64 r14, .int .i64 r15]) ∧ Kd.V (Kd.int .i64) 3 w' w.heap.size (fun k_ => (w.heap.size ≤ k_)) v1_ r2 ∧ Kd.V (Kd.int .i64) 3 w' w.heap.size (fun k_ => (w.heap.size ≤ k_)) v4_ r5 ∧ Kd.V (Kd.int .i64) 3 w' w.heap.size (fun k_ => (w.heap.size ≤ k_)) v5_ r6 ∧ Kd.V k25 25 w' w.heap.size (fun k_ => (w.heap.size ≤ k_)) v9_ r10 ∧ Kd.V k42 42 w' w.heap.size (fun k_ => (w.heap.size ≤ k_)) v12_ r13 ∧ Below w.heap.size w w' := by
  have hu := Try.underlying75
  have hu2 := Try.underlying42
  obtain ⟨⟨x, p2, e2⟩, hs, h⟩ := Option.bind_eq_some_iff.mp h
  have HA := Aside0.mk hA
  have HC := Aside0.mk hc
  have HS := Aside0.mk hs
  dsimp only at h
  clear hA hc hs
  by_cases he : e2 = 0
  · subst he
    rw [if_pos rfl] at h
    have e := Option.some.inj h
    simp only [Prod.mk.injEq] at e
    obtain ⟨rfl, rfl, rfl, rfl, rfl, rfl, rfl, rfl, rfl, rfl, rfl, rfl, rfl, rfl, rfl⟩ := e
    clear h
    go_enter Try.func18, Try.ntmps18
    obtain ⟨W1, hW1⟩ : ∃ W1 : World, W1 = w.alloc (.cells #[.int .i64 0, .slice none 0 0, .int .i64 0, .bool false, .slice none 0 0, .slice none 0 0, .int .i64 0, .int .i64 0, .string (⟨#[]⟩ : ByteArray), .slice none 0 0, .int .i64 0, .int .i64 0, .slice none 0 0] 42) := ⟨_, rfl⟩
    have hb1 : Below w.heap.size w W1 := by rw [hW1]; exact below_alloc (Below.refl _ _) _
    have hx1 : W1.heap[w.heap.size]? = some (.cells #[.int .i64 0, .slice none 0 0, .int .i64 0, .bool false, .slice none 0 0, .slice none 0 0, .int .i64 0, .int .i64 0, .string (⟨#[]⟩ : ByteArray), .slice none 0 0, .int .i64 0, .int .i64 0, .slice none 0 0] 42 (0, 0)) := by rw [hW1]; exact blk_new _ _
    have hs1 : W1.heap.size = w.heap.size + 1 := by rw [hW1]; simp
    have HA1 := Aside0.mk (Kd.C_below HA.out hb1)
    have HB1 := Aside0.mk hb1
    have HX1 := Aside0.mk hx1
    have HZ1 := Aside0.mk hs1
    clear hb1 hx1 hs1
    go_upto_region 5 with (first | (go_at_call 43; (with_reducible refine (code_rs.deriv_calls k W1 g A c l 0 p _ x p2 0 _ HI2.out HS.out).mono ?_); rintro y w3 ⟨A1, c1, A4, c4, A5, c5, A9, c9, A12, c12, rfl, hf3, hi3, hk3⟩; (have x3 : ∀ o, (w3.alloc o).cell? ⟨g, 3, none⟩ = some (.int .i64 0) := fun o => (blk_cell (blk_alloc hi3.blk o) 3).trans rfl); (have HI3 := Aside0.mk hi3); (have HK3 := Aside0.mk hk3); (have HF3 := Aside0.mk hf3); clear hi3 hk3 hf3) | (rw [← hW1]; go_at_call 36; (with_reducible refine (code_ReadTerm.begin_calls A c l p _ HA1.out HC.out).mono ?_); rintro y w2 ⟨g, rfl, hi2, hb2⟩; (have HI2 := Aside0.mk hi2); (have HB2 := Aside0.mk hb2); clear hi2 hb2))
    clear hW1 x3
    have hgw : w.heap.size ≠ g := by have := HI2.out.ge; have := HZ1.out; omega
    have hx3 : w3.heap[w.heap.size]? = some (.cells #[.int .i64 0, .slice none 0 0, .int .i64 0, .bool false, .slice none 0 0, .slice none 0 0, .int .i64 0, .int .i64 0, .string (⟨#[]⟩ : ByteArray), .slice none 0 0, .int .i64 0, .int .i64 0, .slice none 0 0] 42 (0, 0)) := code_rd.kb HK3.out ((HB2.out.block _ (by have := HZ1.out; omega)).trans HX1.out) hgw
    have hb3 : Below w.heap.size w w3 := HB1.out.trans (HI3.out.bel.mono (by have := HZ1.out; omega))
    obtain ⟨W4, hW4⟩ : ∃ W4 : World, W4 = w3.alloc (.cells #[.int .i64 x.f0, .slice A1 x.f1.length c1, .int .i64 x.f2.f0, .bool x.f2.f1, .slice A4 x.f2.f2.length c4, .slice A5 x.f2.f3.length c5, .int .i64 x.f2.f4.f0, .int .i64 x.f2.f4.f1, .string x.f2.f4.f2, .slice A9 x.f2.f4.f3.length c9, .int .i64 x.f2.f4.f4, .int .i64 x.f2.f4.f5, .slice A12 x.f3.length c12] 42) := ⟨_, rfl⟩
    have hb4 : Below w3.heap.size w3 W4 := by rw [hW4]; exact below_alloc (Below.refl _ _) _
    have hx4 : W4.heap[w3.heap.size]? = some (.cells #[.int .i64 x.f0, .slice A1 x.f1.length c1, .int .i64 x.f2.f0, .bool x.f2.f1, .slice A4 x.f2.f2.length c4, .slice A5 x.f2.f3.length c5, .int .i64 x.f2.f4.f0, .int .i64 x.f2.f4.f1, .string x.f2.f4.f2, .slice A9 x.f2.f4.f3.length c9, .int .i64 x.f2.f4.f4, .int .i64 x.f2.f4.f5, .slice A12 x.f3.length c12] 42 (0, 0)) := by rw [hW4]; exact blk_new _ _
    have hy4 : W4.heap[w.heap.size]? = some (.cells #[.int .i64 0, .slice none 0 0, .int .i64 0, .bool false, .slice none 0 0, .slice none 0 0, .int .i64 0, .int .i64 0, .string (⟨#[]⟩ : ByteArray), .slice none 0 0, .int .i64 0, .int .i64 0, .slice none 0 0] 42 (0, 0)) := blk_below hx3 hb4
    have hi4 : W4.heap[g]? = some (.cells #[.slice A l.length c, .int .i64 p2, .int .i64 0, .int .i64 0] 75 (0, 0)) := blk_below HI3.out.blk hb4
    rw [← hW4]
    have hf4 : Kd.FK k42 W4 (fun q => w2.heap.size ≤ q) x [.int .i64 x.f0, .slice A1 x.f1.length c1, .int .i64 x.f2.f0, .bool x.f2.f1, .slice A4 x.f2.f2.length c4, .slice A5 x.f2.f3.length c5, .int .i64 x.f2.f4.f0, .int .i64 x.f2.f4.f1, .string x.f2.f4.f2, .slice A9 x.f2.f4.f3.length c9, .int .i64 x.f2.f4.f4, .int .i64 x.f2.f4.f5, .slice A12 x.f3.length c12] := Kd.FK_below HF3.out hb4
    have hq4 : w.heap.size + 1 ≤ w2.heap.size := by have := HB2.out.size; have := HZ1.out; omega
    have HY4 := Aside0.mk hy4
    have HX4 := Aside0.mk hx4
    have HI4 := Aside0.mk hi4
    have HGW := Aside0.mk hgw
    have HWW : Aside0 (w3.heap.size ≠ w.heap.size) := ⟨by have := blk_lt hx3; omega⟩
    have HF4 := Aside0.mk hf4
    have HQ4 := Aside0.mk hq4
    have HB4 := Aside0.mk (below_step hb3 hb4)
    have z1 : W4.cell? ⟨g, 1, none⟩ = some (.int .i64 p2) := (blk_cell hi4 1).trans rfl
    have z3 : W4.cell? ⟨g, 3, none⟩ = some (.int .i64 0) := (blk_cell hi4 3).trans rfl
    have y0 : W4.cell? ⟨w3.heap.size, 0, none⟩ = some (.int .i64 x.f0) := (blk_cell hx4 0).trans rfl
    have y1 : W4.cell? ⟨w3.heap.size, 1, none⟩ = some (.slice A1 x.f1.length c1) := (blk_cell hx4 1).trans rfl
    have y2 : W4.cell? ⟨w3.heap.size, 2, none⟩ = some (.int .i64 x.f2.f0) := (blk_cell hx4 2).trans rfl
    have y3 : W4.cell? ⟨w3.heap.size, 3, none⟩ = some (.bool x.f2.f1) := (blk_cell hx4 3).trans rfl
    have y4 : W4.cell? ⟨w3.heap.size, 4, none⟩ = some (.slice A4 x.f2.f2.length c4) := (blk_cell hx4 4).trans rfl
    have y5 : W4.cell? ⟨w3.heap.size, 5, none⟩ = some (.slice A5 x.f2.f3.length c5) := (blk_cell hx4 5).trans rfl
    have y6 : W4.cell? ⟨w3.heap.size, 6, none⟩ = some (.int .i64 x.f2.f4.f0) := (blk_cell hx4 6).trans rfl
    have y7 : W4.cell? ⟨w3.heap.size, 7, none⟩ = some (.int .i64 x.f2.f4.f1) := (blk_cell hx4 7).trans rfl
    have y8 : W4.cell? ⟨w3.heap.size, 8, none⟩ = some (.string x.f2.f4.f2) := (blk_cell hx4 8).trans rfl
    have y9 : W4.cell? ⟨w3.heap.size, 9, none⟩ = some (.slice A9 x.f2.f4.f3.length c9) := (blk_cell hx4 9).trans rfl
    have y10 : W4.cell? ⟨w3.heap.size, 10, none⟩ = some (.int .i64 x.f2.f4.f4) := (blk_cell hx4 10).trans rfl
    have y11 : W4.cell? ⟨w3.heap.size, 11, none⟩ = some (.int .i64 x.f2.f4.f5) := (blk_cell hx4 11).trans rfl
    have y12 : W4.cell? ⟨w3.heap.size, 12, none⟩ = some (.slice A12 x.f3.length c12) := (blk_cell hx4 12).trans rfl
    clear hx3 hb3 hb4 hx4 hy4 hi4 hf4 hq4 hgw HF3 HB1 HX1 HZ1 HA1 HI2 HB2 HI3 HK3 hW4
    refine start_ (n := 8) (S := fun w' => w'.cell? ⟨w3.heap.size, 0, none⟩ = some (.int .i64 x.f0) ∧ w'.cell? ⟨w3.heap.size, 1, none⟩ = some (.slice A1 x.f1.length c1) ∧ w'.cell? ⟨w3.heap.size, 2, none⟩ = some (.int .i64 x.f2.f0) ∧ w'.cell? ⟨w3.heap.size, 3, none⟩ = some (.bool x.f2.f1) ∧ w'.cell? ⟨w3.heap.size, 4, none⟩ = some (.slice A4 x.f2.f2.length c4) ∧ w'.cell? ⟨w3.heap.size, 5, none⟩ = some (.slice A5 x.f2.f3.length c5) ∧ w'.cell? ⟨w3.heap.size, 6, none⟩ = some (.int .i64 x.f2.f4.f0) ∧ w'.cell? ⟨w3.heap.size, 7, none⟩ = some (.int .i64 x.f2.f4.f1) ∧ w'.cell? ⟨w3.heap.size, 8, none⟩ = some (.string x.f2.f4.f2) ∧ w'.cell? ⟨w3.heap.size, 9, none⟩ = some (.slice A9 x.f2.f4.f3.length c9) ∧ w'.cell? ⟨w3.heap.size, 10, none⟩ = some (.int .i64 x.f2.f4.f4) ∧ w'.cell? ⟨w3.heap.size, 11, none⟩ = some (.int .i64 x.f2.f4.f5) ∧ w'.cell? ⟨w3.heap.size, 12, none⟩ = some (.slice A12 x.f3.length c12) ∧ w'.cell? ⟨g, 1, none⟩ = some (.int .i64 p2)) (ds := []) (bl 8 0) (by kernel_rfl) rfl rfl ⟨y0, y1, y2, y3, y4, y5, y6, y7, y8, y9, y10, y11, y12, z1⟩ (fun hHeld => ?_)
    refine take_ (i := 0) (N := some 24) (v := ?_) (a' := ?_) (bl 8 1) rfl rfl (by kernel_rfl) (fun _ _ _ h => h) (Or.inl ⟨by rfl, ?_⟩) hHeld ?_ ?_
    rotate_left
    · rintro w' ⟨s0, s1, s2, s3, s4, s5, s6, s7, s8, s9, s10, s11, s12, s13⟩
      go_simp
      with_reducible rfl
    rotate_left
    · simp only [Act.put, sa_, sz_, ss_, i64_w, i32_w]; rfl
    refine pure_ (i := 1) (N := some 25) (v := ?_) (a' := ?_) (bl 8 3) rfl rfl (by kernel_rfl) (fun _ _ _ h => h) (Or.inl ⟨by rfl, ?_⟩) ?_ ?_
    rotate_left
    · intro w'; go_simp; with_reducible rfl
    rotate_left
    · simp only [Act.put, sa_, sz_, ss_, i64_w, i32_w]; rfl
    refine pure_ (i := 2) (N := some 26) (v := ?_) (a' := ?_) (bl 8 7) rfl rfl (by kernel_rfl) (fun _ _ _ h => h) (Or.inl ⟨by rfl, ?_⟩) ?_ ?_
    rotate_left
    · intro w'; go_simp; with_reducible rfl
    rotate_left
    · simp only [Act.put, sa_, sz_, ss_, i64_w, i32_w]; rfl
    refine pure_ (i := 3) (N := some 27) (v := ?_) (a' := ?_) (bl 8 15) rfl rfl (by kernel_rfl) (fun _ _ _ h => h) (Or.inl ⟨by rfl, ?_⟩) ?_ ?_
    rotate_left
    · intro w'; go_simp; with_reducible rfl
    rotate_left
    · simp only [Act.put, sa_, sz_, ss_, i64_w, i32_w]; rfl
    refine take_ (i := 4) (N := some 28) (v := ?_) (a' := ?_) (bl 8 31) rfl rfl (by kernel_rfl) (fun _ _ _ h => h) (Or.inl ⟨by rfl, ?_⟩) hHeld ?_ ?_
    rotate_left
    · rintro w' ⟨s0, s1, s2, s3, s4, s5, s6, s7, s8, s9, s10, s11, s12, s13⟩
      go_simp
      with_reducible rfl
    rotate_left
    · simp only [Act.put, sa_, sz_, ss_, i64_w, i32_w]; rfl
    refine one_ (i := 5) (N := none) (bl 8 63) rfl rfl (by kernel_rfl) (by decide) (fun K hK => ?_)
    refine code_ReadTerm.row_ (by rfl) rfl 42 (.tmp 4) (.tmp 24) rfl w.heap.size #[.int .i64 x.f0, .slice A1 x.f1.length c1, .int .i64 x.f2.f0, .bool x.f2.f1, .slice A4 x.f2.f2.length c4, .slice A5 x.f2.f3.length c5, .int .i64 x.f2.f4.f0, .int .i64 x.f2.f4.f1, .string x.f2.f4.f2, .slice A9 x.f2.f4.f3.length c9, .int .i64 x.f2.f4.f4, .int .i64 x.f2.f4.f5, .slice A12 x.f3.length c12] rfl rfl 42 _ HY4.out (by kernel_rfl) rfl (by simp [Value.oneCell']) ?_
    intro W5 hg5 ho5 hb5
    have HG5 := Aside0.mk hg5
    have HO5 : Aside0 (∀ k, k ≠ w.heap.size → W5.heap[k]? = W4.heap[k]?) := ⟨ho5⟩
    have HB5 : Aside0 (Below w.heap.size W4 W5) := ⟨(below_drew (Below.refl _ _)).trans hb5⟩
    have vi5 : W5.heap[g]? = some (.cells #[.slice A l.length c, .int .i64 p2, .int .i64 0, .int .i64 0] 75 (0, 0)) := (ho5 g (fun e => HGW.out e.symm)).trans HI4.out
    have vx5 : W5.heap[w3.heap.size]? = some (.cells #[.int .i64 x.f0, .slice A1 x.f1.length c1, .int .i64 x.f2.f0, .bool x.f2.f1, .slice A4 x.f2.f2.length c4, .slice A5 x.f2.f3.length c5, .int .i64 x.f2.f4.f0, .int .i64 x.f2.f4.f1, .string x.f2.f4.f2, .slice A9 x.f2.f4.f3.length c9, .int .i64 x.f2.f4.f4, .int .i64 x.f2.f4.f5, .slice A12 x.f3.length c12] 42 (0, 0)) := (ho5 _ HWW.out).trans HX4.out
    refine hK.out _ _ ⟨(blk_cell vx5 0).trans rfl, (blk_cell vx5 1).trans rfl, (blk_cell vx5 2).trans rfl, (blk_cell vx5 3).trans rfl, (blk_cell vx5 4).trans rfl, (blk_cell vx5 5).trans rfl, (blk_cell vx5 6).trans rfl, (blk_cell vx5 7).trans rfl, (blk_cell vx5 8).trans rfl, (blk_cell vx5 9).trans rfl, (blk_cell vx5 10).trans rfl, (blk_cell vx5 11).trans rfl, (blk_cell vx5 12).trans rfl, (blk_cell vi5 1).trans rfl⟩ (fun hHeld => ?_)
    clear hK K hg5 ho5 hb5 vi5 vx5
    refine pure_ (i := 6) (N := some 5) (v := ?_) (a' := ?_) (bl 8 127) rfl rfl (by kernel_rfl) (fun _ _ _ h => h) (Or.inl ⟨by rfl, ?_⟩) ?_ ?_
    rotate_left
    · intro w'; go_simp; with_reducible rfl
    rotate_left
    · simp only [Act.put, sa_, sz_, ss_, i64_w, i32_w]; rfl
    refine pure_ (i := 7) (N := some 6) (v := ?_) (a' := ?_) (bl 8 255) rfl rfl (by kernel_rfl) (fun _ _ _ h => h) (Or.inl ⟨by rfl, ?_⟩) ?_ ?_
    rotate_left
    · intro w'; go_simp; with_reducible rfl
    rotate_left
    · simp only [Act.put, sa_, sz_, ss_, i64_w, i32_w]; rfl
    refine done_ (by kernel_rfl) ?_
    go_wp2
    obtain ⟨B1, n1, B4, n4, B5, n5, B9, n9, B12, n12, he, l1, f1, l4, f4, l5, f5, l9, f9, l12, f12⟩ := k42_openF HF4.out
    have he2 : ([.int .i64 x.f0, .slice A1 x.f1.length c1, .int .i64 x.f2.f0, .bool x.f2.f1, .slice A4 x.f2.f2.length c4, .slice A5 x.f2.f3.length c5, .int .i64 x.f2.f4.f0, .int .i64 x.f2.f4.f1, .string x.f2.f4.f2, .slice A9 x.f2.f4.f3.length c9, .int .i64 x.f2.f4.f4, .int .i64 x.f2.f4.f5, .slice A12 x.f3.length c12] : List Value) = [.int .i64 x.f0, .slice B1 x.f1.length n1, .int .i64 x.f2.f0, .bool x.f2.f1, .slice B4 x.f2.f2.length n4, .slice B5 x.f2.f3.length n5, .int .i64 x.f2.f4.f0, .int .i64 x.f2.f4.f1, .string x.f2.f4.f2, .slice B9 x.f2.f4.f3.length n9, .int .i64 x.f2.f4.f4, .int .i64 x.f2.f4.f5, .slice B12 x.f3.length n12] := he
    simp only [List.cons.injEq, Value.slice.injEq, and_true, true_and] at he2
    obtain ⟨⟨rfl, rfl⟩, ⟨rfl, rfl⟩, ⟨rfl, rfl⟩, ⟨rfl, rfl⟩, rfl, rfl⟩ := he2
    refine bodyPost_ret (results_ctt rfl _ _ w.heap.size 42 _ (0, 0) _ rfl HG5.out Try.underlying42 rfl (by kernel_rfl)) rfl ?_
    exact ⟨_, _, _, _, _, rfl, Kd.V_mono (Kd.V_mk l1 (Kd.F_step f1 (fun q hq _ => HO5.out q (by have := HQ4.out; have h1 : w2.heap.size ≤ q := hq; omega)))) (fun q hq => by have := HQ4.out; have h1 : w2.heap.size ≤ q := hq; omega), Kd.V_mono (Kd.V_mk l4 (Kd.F_step f4 (fun q hq _ => HO5.out q (by have := HQ4.out; have h1 : w2.heap.size ≤ q := hq; omega)))) (fun q hq => by have := HQ4.out; have h1 : w2.heap.size ≤ q := hq; omega), Kd.V_mono (Kd.V_mk l5 (Kd.F_step f5 (fun q hq _ => HO5.out q (by have := HQ4.out; have h1 : w2.heap.size ≤ q := hq; omega)))) (fun q hq => by have := HQ4.out; have h1 : w2.heap.size ≤ q := hq; omega), Kd.V_mono (Kd.V_mk l9 (Kd.F_step f9 (fun q hq _ => HO5.out q (by have := HQ4.out; have h1 : w2.heap.size ≤ q := hq; omega)))) (fun q hq => by have := HQ4.out; have h1 : w2.heap.size ≤ q := hq; omega), Kd.V_mono (Kd.V_mk l12 (Kd.F_step f12 (fun q hq _ => HO5.out q (by have := HQ4.out; have h1 : w2.heap.size ≤ q := hq; omega)))) (fun q hq => by have := HQ4.out; have h1 : w2.heap.size ≤ q := hq; omega), HB4.out.trans HB5.out⟩
  · have heb : (e2 != 0) = true := by simpa using he
    rw [if_neg he] at h
    have e := Option.some.inj h
    simp only [Prod.mk.injEq] at e
    obtain ⟨rfl, rfl, rfl, rfl, rfl, rfl, rfl, rfl, rfl, rfl, rfl, rfl, rfl, rfl, rfl⟩ := e
    clear h he
    go_enter Try.func18, Try.ntmps18
    obtain ⟨W1, hW1⟩ : ∃ W1 : World, W1 = w.alloc (.cells #[.int .i64 0, .slice none 0 0, .int .i64 0, .bool false, .slice none 0 0, .slice none 0 0, .int .i64 0, .int .i64 0, .string (⟨#[]⟩ : ByteArray), .slice none 0 0, .int .i64 0, .int .i64 0, .slice none 0 0] 42) := ⟨_, rfl⟩
    have hb1 : Below w.heap.size w W1 := by rw [hW1]; exact below_alloc (Below.refl _ _) _
    have hx1 : W1.heap[w.heap.size]? = some (.cells #[.int .i64 0, .slice none 0 0, .int .i64 0, .bool false, .slice none 0 0, .slice none 0 0, .int .i64 0, .int .i64 0, .string (⟨#[]⟩ : ByteArray), .slice none 0 0, .int .i64 0, .int .i64 0, .slice none 0 0] 42 (0, 0)) := by rw [hW1]; exact blk_new _ _
    have hs1 : W1.heap.size = w.heap.size + 1 := by rw [hW1]; simp
    have HA1 := Aside0.mk (Kd.C_below HA.out hb1)
    have HB1 := Aside0.mk hb1
    have HX1 := Aside0.mk hx1
    have HZ1 := Aside0.mk hs1
    clear hb1 hx1 hs1
    go_upto_region 4 with (first | (go_at_call 43; (with_reducible refine (code_rs.deriv_calls k W1 g A c l 0 p _ x p2 e2 _ HI2.out HS.out).mono ?_); rintro y w3 ⟨A1, c1, A4, c4, A5, c5, A9, c9, A12, c12, rfl, hf3, hi3, hk3⟩; (have x3 : ∀ o, (w3.alloc o).cell? ⟨g, 3, none⟩ = some (.int .i64 e2) := fun o => (blk_cell (blk_alloc hi3.blk o) 3).trans rfl); (have HI3 := Aside0.mk hi3); (have HK3 := Aside0.mk hk3); (have HF3 := Aside0.mk hf3); clear hi3 hk3 hf3) | (rw [← hW1]; go_at_call 36; (with_reducible refine (code_ReadTerm.begin_calls A c l p _ HA1.out HC.out).mono ?_); rintro y w2 ⟨g, rfl, hi2, hb2⟩; (have HI2 := Aside0.mk hi2); (have HB2 := Aside0.mk hb2); clear hi2 hb2))
    clear hW1 x3
    have hgw : w.heap.size ≠ g := by have := HI2.out.ge; have := HZ1.out; omega
    have hx3 : w3.heap[w.heap.size]? = some (.cells #[.int .i64 0, .slice none 0 0, .int .i64 0, .bool false, .slice none 0 0, .slice none 0 0, .int .i64 0, .int .i64 0, .string (⟨#[]⟩ : ByteArray), .slice none 0 0, .int .i64 0, .int .i64 0, .slice none 0 0] 42 (0, 0)) := code_rd.kb HK3.out ((HB2.out.block _ (by have := HZ1.out; omega)).trans HX1.out) hgw
    have hb3 : Below w.heap.size w w3 := HB1.out.trans (HI3.out.bel.mono (by have := HZ1.out; omega))
    obtain ⟨W4, hW4⟩ : ∃ W4 : World, W4 = w3.alloc (.cells #[.int .i64 x.f0, .slice A1 x.f1.length c1, .int .i64 x.f2.f0, .bool x.f2.f1, .slice A4 x.f2.f2.length c4, .slice A5 x.f2.f3.length c5, .int .i64 x.f2.f4.f0, .int .i64 x.f2.f4.f1, .string x.f2.f4.f2, .slice A9 x.f2.f4.f3.length c9, .int .i64 x.f2.f4.f4, .int .i64 x.f2.f4.f5, .slice A12 x.f3.length c12] 42) := ⟨_, rfl⟩
    have hb4 : Below w3.heap.size w3 W4 := by rw [hW4]; exact below_alloc (Below.refl _ _) _
    have hx4 : W4.heap[w3.heap.size]? = some (.cells #[.int .i64 x.f0, .slice A1 x.f1.length c1, .int .i64 x.f2.f0, .bool x.f2.f1, .slice A4 x.f2.f2.length c4, .slice A5 x.f2.f3.length c5, .int .i64 x.f2.f4.f0, .int .i64 x.f2.f4.f1, .string x.f2.f4.f2, .slice A9 x.f2.f4.f3.length c9, .int .i64 x.f2.f4.f4, .int .i64 x.f2.f4.f5, .slice A12 x.f3.length c12] 42 (0, 0)) := by rw [hW4]; exact blk_new _ _
    have hy4 : W4.heap[w.heap.size]? = some (.cells #[.int .i64 0, .slice none 0 0, .int .i64 0, .bool false, .slice none 0 0, .slice none 0 0, .int .i64 0, .int .i64 0, .string (⟨#[]⟩ : ByteArray), .slice none 0 0, .int .i64 0, .int .i64 0, .slice none 0 0] 42 (0, 0)) := blk_below hx3 hb4
    have hi4 : W4.heap[g]? = some (.cells #[.slice A l.length c, .int .i64 p2, .int .i64 0, .int .i64 e2] 75 (0, 0)) := blk_below HI3.out.blk hb4
    rw [← hW4]
    have hf4 : Kd.FK k42 W4 (fun q => w2.heap.size ≤ q) x [.int .i64 x.f0, .slice A1 x.f1.length c1, .int .i64 x.f2.f0, .bool x.f2.f1, .slice A4 x.f2.f2.length c4, .slice A5 x.f2.f3.length c5, .int .i64 x.f2.f4.f0, .int .i64 x.f2.f4.f1, .string x.f2.f4.f2, .slice A9 x.f2.f4.f3.length c9, .int .i64 x.f2.f4.f4, .int .i64 x.f2.f4.f5, .slice A12 x.f3.length c12] := Kd.FK_below HF3.out hb4
    have hq4 : w.heap.size + 1 ≤ w2.heap.size := by have := HB2.out.size; have := HZ1.out; omega
    have HY4 := Aside0.mk hy4
    have HX4 := Aside0.mk hx4
    have HI4 := Aside0.mk hi4
    have HGW := Aside0.mk hgw
    have HWW : Aside0 (w3.heap.size ≠ w.heap.size) := ⟨by have := blk_lt hx3; omega⟩
    have HF4 := Aside0.mk hf4
    have HQ4 := Aside0.mk hq4
    have HB4 := Aside0.mk (below_step hb3 hb4)
    have z1 : W4.cell? ⟨g, 1, none⟩ = some (.int .i64 p2) := (blk_cell hi4 1).trans rfl
    have z3 : W4.cell? ⟨g, 3, none⟩ = some (.int .i64 e2) := (blk_cell hi4 3).trans rfl
    clear hx3 hb3 hb4 hx4 hy4 hi4 hf4 hq4 hgw HF3 HB1 HX1 HZ1 HA1 HI2 HB2 HI3 HK3 hW4
    refine start_ (n := 8) (S := fun w' => w'.cell? ⟨g, 3, none⟩ = some (.int .i64 e2)) (ds := []) (bl 8 0) (by kernel_rfl) rfl rfl (z3) (fun hHeld => ?_)
    refine pure_ (i := 0) (N := some 19) (v := ?_) (a' := ?_) (bl 8 1) rfl rfl (by kernel_rfl) (fun _ _ _ h => h) (Or.inl ⟨by rfl, ?_⟩) ?_ ?_
    rotate_left
    · intro w'; go_simp; with_reducible rfl
    rotate_left
    · simp only [Act.put, sa_, sz_, ss_, i64_w, i32_w]; rfl
    refine pure_ (i := 1) (N := some 20) (v := ?_) (a' := ?_) (bl 8 3) rfl rfl (by kernel_rfl) (fun _ _ _ h => h) (Or.inl ⟨by rfl, ?_⟩) ?_ ?_
    rotate_left
    · intro w'; go_simp; with_reducible rfl
    rotate_left
    · simp only [Act.put, sa_, sz_, ss_, i64_w, i32_w]; rfl
    refine pure_ (i := 2) (N := some 21) (v := ?_) (a' := ?_) (bl 8 7) rfl rfl (by kernel_rfl) (fun _ _ _ h => h) (Or.inl ⟨by rfl, ?_⟩) ?_ ?_
    rotate_left
    · intro w'; go_simp; with_reducible rfl
    rotate_left
    · simp only [Act.put, sa_, sz_, ss_, i64_w, i32_w]; rfl
    refine pure_ (i := 3) (N := some 22) (v := ?_) (a' := ?_) (bl 8 15) rfl rfl (by kernel_rfl) (fun _ _ _ h => h) (Or.inl ⟨by rfl, ?_⟩) ?_ ?_
    rotate_left
    · intro w'; go_simp; with_reducible rfl
    rotate_left
    · simp only [Act.put, sa_, sz_, ss_, i64_w, i32_w]; rfl
    refine take_ (i := 4) (N := some 23) (v := ?_) (a' := ?_) (bl 8 31) rfl rfl (by kernel_rfl) (fun _ _ _ h => h) (Or.inl ⟨by rfl, ?_⟩) hHeld ?_ ?_
    rotate_left
    · rintro w' s0
      go_simp
      with_reducible rfl
    rotate_left
    · simp only [Act.put, sa_, sz_, ss_, i64_w, i32_w]; rfl
    refine one_ (i := 5) (N := none) (bl 8 63) rfl rfl (by kernel_rfl) (by decide) (fun K hK => ?_)
    refine code_ReadTerm.row_ (by rfl) rfl 42 (.tmp 4) (.tmp 19) rfl w.heap.size #[.int .i64 0, .slice none 0 0, .int .i64 0, .bool false, .slice none 0 0, .slice none 0 0, .int .i64 0, .int .i64 0, .string (⟨#[]⟩ : ByteArray), .slice none 0 0, .int .i64 0, .int .i64 0, .slice none 0 0] rfl rfl 42 _ HY4.out (by kernel_rfl) rfl (by simp [Value.oneCell']) ?_
    intro W5 hg5 ho5 hb5
    have HG5 := Aside0.mk hg5
    have HO5 : Aside0 (∀ k, k ≠ w.heap.size → W5.heap[k]? = W4.heap[k]?) := ⟨ho5⟩
    have HB5 : Aside0 (Below w.heap.size W4 W5) := ⟨(below_drew (Below.refl _ _)).trans hb5⟩
    have vi5 : W5.heap[g]? = some (.cells #[.slice A l.length c, .int .i64 p2, .int .i64 0, .int .i64 e2] 75 (0, 0)) := (ho5 g (fun e => HGW.out e.symm)).trans HI4.out
    have vx5 : W5.heap[w3.heap.size]? = some (.cells #[.int .i64 x.f0, .slice A1 x.f1.length c1, .int .i64 x.f2.f0, .bool x.f2.f1, .slice A4 x.f2.f2.length c4, .slice A5 x.f2.f3.length c5, .int .i64 x.f2.f4.f0, .int .i64 x.f2.f4.f1, .string x.f2.f4.f2, .slice A9 x.f2.f4.f3.length c9, .int .i64 x.f2.f4.f4, .int .i64 x.f2.f4.f5, .slice A12 x.f3.length c12] 42 (0, 0)) := (ho5 _ HWW.out).trans HX4.out
    refine hK.out _ _ ((blk_cell vi5 3).trans rfl) (fun hHeld => ?_)
    clear hK K hg5 ho5 hb5 vi5 vx5
    refine pure_ (i := 6) (N := some 5) (v := ?_) (a' := ?_) (bl 8 127) rfl rfl (by kernel_rfl) (fun _ _ _ h => h) (Or.inl ⟨by rfl, ?_⟩) ?_ ?_
    rotate_left
    · intro w'; go_simp; with_reducible rfl
    rotate_left
    · simp only [Act.put, sa_, sz_, ss_, i64_w, i32_w]; rfl
    refine pure_ (i := 7) (N := some 6) (v := ?_) (a' := ?_) (bl 8 255) rfl rfl (by kernel_rfl) (fun _ _ _ h => h) (Or.inl ⟨by rfl, ?_⟩) ?_ ?_
    rotate_left
    · intro w'; go_simp; with_reducible rfl
    rotate_left
    · simp only [Act.put, sa_, sz_, ss_, i64_w, i32_w]; rfl
    refine done_ (by kernel_rfl) ?_
    go_wp2
    refine bodyPost_ret (results_ctt rfl _ _ w.heap.size 42 _ (0, 0) _ rfl HG5.out Try.underlying42 rfl (by kernel_rfl)) rfl ?_
    exact ⟨_, _, _, _, _, rfl, Kd.V_nil _ _ _ _ _, Kd.V_nil _ _ _ _ _, Kd.V_nil _ _ _ _ _, Kd.V_nil _ _ _ _ _, Kd.V_nil _ _ _ _ _, HB4.out.trans HB5.out⟩

/-! ### notaryref06_Way: function 44 -/
def notaryref06_Way.l0 : Nat → List Int → List Int → Int → Option (Bool)
  | 0, _, _, _ => none
  | k + 1, x0, x1, x5 => if x5 < (x0.length : Int) then (if 0 ≤ x5 then (if x5 < (x1.length : Int) then (if (rd x0 x5) = (rd x1 x5) then (notaryref06_Way.l0 k x0 x1 (wrap64 (x5 + 1))) else (some false)) else (none)) else (none)) else (some true)
def notaryref06_Way.f (k : Nat) (l0 : List Int) (l1 : List Int) : Option (Bool) := if (l0.length : Int) = (l1.length : Int) then (notaryref06_Way.l0 k l0 l1 0) else (some false)
set_option maxHeartbeats 8000000 in
set_option maxRecDepth 100000 in
theorem notaryref06_Way.calls (k : Nat) (A0 : Option Addr) (c0 : Nat) (l0 : List Int) (A1 : Option Addr) (c1 : Nat) (l1 : List Int) (r : Bool) (w : World) (hr0 : Kd.C (Kd.int .i64) w A0 l0.length l0) (hc0 : l0.length ≤ c0) (hr1 : Kd.C (Kd.int .i64) w A1 l1.length l1) (hc1 : l1.length ≤ c1) (h : notaryref06_Way.f k l0 l1 = some r) :
    Calls Try.prog 44 #[.slice A0 l0.length c0, .slice A1 l1.length c1] w fun e w' => e = .returned (.bool r) ∧ Drawn0 w w' := by
  have HR0 := Aside0.mk hr0
  have HC0 := Aside0.mk hc0
  clear hr0 hc0
  have HR1 := Aside0.mk hr1
  have HC1 := Aside0.mk hc1
  clear hr1 hc1
  have H : (if (l0.length : Int) = (l1.length : Int) then (notaryref06_Way.l0 k l0 l1 0) else (some false)) = some r := h
  clear h
  by_cases c3 : (l0.length : Int) = (l1.length : Int)
  rotate_left
  · rw [if_neg c3] at H
    have c3b0 : ((l0.length : Int) == (l1.length : Int)) = false := beq_eq_false_iff_ne.mpr c3
    have c3b1 : ((l0.length : Int) != (l1.length : Int)) = true := bne_iff_ne.mpr c3
    have c3b2 : (l0.length == l1.length) = false := by (simp at c3 ⊢; omega)
    obtain rfl := Option.some.inj H
    go_enter Try.func44, Try.ntmps44
    go_wp2
    repeat (go_quiet (fail); skip)
    go_ret
    exact ⟨by (rfl), by repeat (exact Drawn0.refl _)⟩

  rw [if_pos c3] at H
  have c3b0 : ((l0.length : Int) == (l1.length : Int)) = true := beq_iff_eq.mpr c3
  have c3b1 : ((l0.length : Int) != (l1.length : Int)) = false := bne_eq_false_iff_eq.mpr c3
  have c3b2 : (l0.length == l1.length) = true := by (simp at c3 ⊢; omega)
  clear c3
  have H' := Aside0.mk H
  clear H
  go_enter Try.func44, Try.ntmps44
  go_wp2
  repeat (go_quiet (fail); skip)
  go_loopg [5] k (fun kq v5 w' => ∃ (x5_1 : Int), v5 = .int .i64 x5_1 ∧ Aside0 (notaryref06_Way.l0 kq l0 l1 x5_1 = some r) ∧ Aside0 (kq ≤ k) ∧ Drawn0 w w')
  case atStart => exact ⟨(0), (by (rfl)), H', ⟨Nat.le_refl _⟩, by repeat (exact Drawn0.refl _)⟩
  clear H'
  try clear c3b0
  try clear c3b1
  try clear c3b2
  obtain ⟨x5_1, rfl, HA, HK1, ⟨m1, rfl⟩⟩ := hrel
  rcases gk with _ | k1
  · exact absurd HA.out (by simp [notaryref06_Way.l0])
  have H := HA.out
  clear HA
  simp only [notaryref06_Way.l0] at H
  by_cases c4 : x5_1 < (l0.length : Int)
  rotate_left
  · rw [if_neg c4] at H
    have c4b0 : decide (x5_1 < (l0.length : Int)) = false := decide_eq_false c4
    clear c4
    obtain rfl := Option.some.inj H
    go_wp2
    repeat (go_quiet (fail); skip)
    go_ret
    exact ⟨by (rfl), by repeat (first | exact Drawn0.refl _ | apply Drawn0.step)⟩
  rw [if_pos c4] at H
  have c4b0 : decide (x5_1 < (l0.length : Int)) = true := decide_eq_true c4
  clear c4
  by_cases c5 : 0 ≤ x5_1
  rotate_left
  · rw [if_neg c5] at H
    exact absurd H (by simp)
  rw [if_pos c5] at H
  have c5b0 : decide (0 ≤ x5_1) = true := decide_eq_true c5
  clear c5
  by_cases c6 : x5_1 < (l1.length : Int)
  rotate_left
  · rw [if_neg c6] at H
    exact absurd H (by simp)
  rw [if_pos c6] at H
  have c6b0 : decide (x5_1 < (l1.length : Int)) = true := decide_eq_true c6
  clear c6
  by_cases c7 : (rd l0 x5_1) = (rd l1 x5_1)
  rotate_left
  · rw [if_neg c7] at H
    have c7b0 : ((rd l0 x5_1) == (rd l1 x5_1)) = false := beq_eq_false_iff_ne.mpr c7
    have c7b1 : ((rd l0 x5_1) != (rd l1 x5_1)) = true := bne_iff_ne.mpr c7
    obtain rfl := Option.some.inj H
    have p139 : 0 ≤ (x5_1 : Int) := of_decide_eq_true (by (with_reducible assumption))
    have q139 : x5_1 < (l0.length : Int) := of_decide_eq_true (by (with_reducible assumption))
    obtain ⟨ad139, e139, hx139_0⟩ := Kd.at_int HR0.out x5_1 p139 q139
    cases e139
    replace p139 := eq_true p139
    replace q139 := eq_true q139
    have p140 : 0 ≤ (x5_1 : Int) := of_decide_eq_true (by (with_reducible assumption))
    have q140 : x5_1 < (l1.length : Int) := of_decide_eq_true (by (with_reducible assumption))
    obtain ⟨ad140, e140, hx140_0⟩ := Kd.at_int HR1.out x5_1 p140 q140
    cases e140
    replace p140 := eq_true p140
    replace q140 := eq_true q140
    go_wp2
    repeat (go_quiet (fail); try go_wp2)
    go_ret
    exact ⟨by (rfl), by repeat (first | exact Drawn0.refl _ | apply Drawn0.step)⟩
  rw [if_pos c7] at H
  have c7b0 : ((rd l0 x5_1) == (rd l1 x5_1)) = true := beq_iff_eq.mpr c7
  have c7b1 : ((rd l0 x5_1) != (rd l1 x5_1)) = false := bne_eq_false_iff_eq.mpr c7
  clear c7
  have H' := Aside0.mk H
  clear H
  have p139 : 0 ≤ (x5_1 : Int) := of_decide_eq_true (by (with_reducible assumption))
  have q139 : x5_1 < (l0.length : Int) := of_decide_eq_true (by (with_reducible assumption))
  obtain ⟨ad139, e139, hx139_0⟩ := Kd.at_int HR0.out x5_1 p139 q139
  cases e139
  replace p139 := eq_true p139
  replace q139 := eq_true q139
  have p140 : 0 ≤ (x5_1 : Int) := of_decide_eq_true (by (with_reducible assumption))
  have q140 : x5_1 < (l1.length : Int) := of_decide_eq_true (by (with_reducible assumption))
  obtain ⟨ad140, e140, hx140_0⟩ := Kd.at_int HR1.out x5_1 p140 q140
  cases e140
  replace p140 := eq_true p140
  replace q140 := eq_true q140
  go_wp2
  repeat (go_quiet (fail); try go_wp2)
  go_roundg k1
  case measure => have := HK1.out; omega
  case rel => exact ⟨(wrap64 (x5_1 + 1)), (by (rfl)), H', ⟨by have := HK1.out; omega⟩, by repeat (first | exact Drawn0.refl _ | apply Drawn0.step)⟩
end Go.Proofs.Ytiamcmjdoobaeaa.PCe
